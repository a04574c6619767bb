/- The two-state vectors' operations as contracts; arithmetic and what stands on it. -/
import Derived.Test.YtdgbdkfoeaollaaGreatDoorVG
import Derived.Test.YtdgbdkfoeaollaaGreatDoorALe
section
set_option linter.unusedSimpArgs false
set_option linter.unusedVariables false
namespace Go.Proofs.YtdgbdkfoeaollaaGreatDoor.V
open Go Go.AL Go.SX
def RBL (l:List Bool) (r:SV) (ro:List SX.Obj):Prop:=∃ l',r=.bl l'∧ro=[]∧l'=l
def RLB (l:List Bool) (b:Bool) (r:SV) (ro:List SX.Obj):Prop:=∃ l' b',r=.t [.bl l',.b b']∧ro=[]∧l'=l∧b'=b
theorem isM_R {H H':AH} {v:Value} {l:List Bool} (h:∃ id,H.n≤id∧IsM H' v l id):IsR H H' v l:=by
 obtain ⟨id,h1,h2⟩:=h
 exact h2.isR h1
theorem cm_bl {H H':AH} {v:Value} {l:List Bool} (h1:AL.Ext H H') (h2:IsR H H' v l):Cm H (RBL l) v H':=⟨h1,_,⟨l,rfl,rfl,rfl⟩,isR_rdS h2⟩
def addF (a b:List Bool):List Bool:=X.ofN a.length (X.val a+X.val b)
def subF (a b:List Bool):List Bool:=X.ofN a.length (X.val a+(2^a.length-X.val b % 2^a.length))
def powF (a b:List Bool):List Bool:=X.ofN a.length (X.val a^X.val b)
theorem bpow_ok (a b:List Bool) (ha:a.length<2^20) (hb:b.length<2^20):FvC CX TB (.f 118 [] []) [.bl a,.bl b] [] (RBL (powF a b)):=
 br2 fun H v w h1 h2=>(X.pow_any ext0V h1 h2 (by omega) (by omega)).mono fun r H' ⟨h3,h4⟩=>cm_bl h3 (isM_R h4)
def dmQ (s:Bool) (a b:List Bool):List Bool:=if X.val b=0 then [] else if s then X.squo a b else X.ofN a.length (X.val a / X.val b)
def dmR (s:Bool) (a b:List Bool):List Bool:=if X.val b=0 then [] else if s then X.srem a b else X.ofN a.length (X.val a % X.val b)
def dmE (b:List Bool):Int:=if X.val b=0 then 7 else 0
theorem bcmp_ok (a b:List Bool) (ha:a.length<2^20) (hb:b.length<2^20):FvC CX TB (.f 172 [] []) [.bl a,.bl b] [] (RI .i64 (X.cmpN (X.val a) (X.val b))):=
 br2 fun H v w h1 h2=>(X.cmp_any ext0V h1 h2 (by omega) (by omega)).mono fun r H' ⟨h3,h4⟩=>⟨h3,_,⟨_,rfl,rfl,rfl⟩,h4⟩
theorem bscmp_ok (a b:List Bool) (ha:a.length<2^20) (hb:b.length<2^20):FvC CX TB (.f 173 [] []) [.bl a,.bl b] [] (RI .i64 (X.scmpN a b)):=
 br2 fun H v w h1 h2=>(X.scmp_any ext0V h1 h2 (by omega) (by omega)).mono fun r H' ⟨h3,h4⟩=>⟨h3,_,⟨_,rfl,rfl,rfl⟩,h4⟩
theorem ofN_len (n x:Nat):(X.ofN n x).length=n:=X.ofN_length n x
theorem intL_len (l:List Bool):(intL l).length=l.length:=by simp [intL]
def arL (F:List Bool→List Bool→Bool→List Bool) (O:List Bool→List Bool→Bool→Bool) (l:List Int) (s:Bool) (m:List Int) (t:Bool):List Int:=
 if (kn (bX l s m t)&&kn (bY l s m t))&&O (boolL (bX l s m t)) (boolL (bY l s m t)) (bg l s m t) then intL (F (boolL (bX l s m t)) (boolL (bY l s m t)) (bg l s m t)) else List.replicate (bwd l m) 2
section
variable (l m:List Int) (s t:Bool) (hl:l.length<2^14) (hm:m.length<2^14) (bl:Byt l) (bm:Byt m)
include hl hm bl bm
theorem arith_ok (k:Nat) (fs cs:List SV) (F:List Bool→List Bool→Bool→List Bool) (O:List Bool→List Bool→Bool→Bool) (hF:∀ x y g,x.length≤128→O x y g=true→(F x y g).length≤128) (hf:∀ x y g,x.length≤128→y.length≤128→FvC CX TB (.fq k fs cs) [.bl x,.bl y,.b g] [] (RLB (F x y g) (O x y g))) :
  FvC CX TB (.f 112 [] []) [.a [.u l,.b s],.a [.u m,.b t],.fq k fs cs] [] (RV (arL F O l s m t) (bg l s m t)):=by
 have nX:=bX_nv (s:=s) (t:=t) bl bm
 have nY:=bY_nv (s:=s) (t:=t) bl bm
 have hwd:(bX l s m t).length=bwd l m:=bX_len
 refine fn_ok rfl rfl fun B D G hG q hq=>?_
 cbv
 refine call hG [] (balance_ok l m s t hl hm) ⟨rfl,rfl,rfl⟩ ?_
 rintro _ _ ⟨X,Y,g,h,rfl,rfl,hX,hY,hg,hh⟩
 cbv
 unfold arL at hq
 rw [←hX,←hY] at hq
 rw [←hX] at nX hwd
 rw [←hY] at nY
 rw [←hwd] at hq
 have lX:=nX.len
 have lY:=nY.len
 have fin:∀ L g',L=List.replicate (G.lu X).toNat 2→g'=g→((kn X&&kn Y)&&O (boolL X) (boolL Y) (bg l s m t))=false→q (.a [.s 0,.b g']) [.u L]:=fun L g' h1 h2 h3=>by
  rw [h3] at hq
  refine hq _ _ ⟨_,_,rfl,rfl,?_,by rw [h2,hg]⟩
  rw [h1,hG];rfl
 have hfw:0≤G.lu X∧G.lu X<2^15:=by rw [hG];show 0≤((X.length:Nat):Int)∧((X.length:Nat):Int)<2^15;omega
 refine call hG [] (vknown_ok X g (by omega)) ⟨rfl,rfl,rfl⟩ ?_
 rintro _ _ ⟨kx,rfl,rfl,hkx⟩
 cbv
 rw [nB_id nX] at hkx
 refine SX.ite hG (fun h1=>?_) (fun h1=>?_)
 ·rw [h1] at hkx
  refine call hG [] (vknown_ok Y h (by omega)) ⟨rfl,rfl,rfl⟩ ?_
  rintro _ _ ⟨ky,rfl,rfl,hky⟩
  cbv
  rw [nB_id nY] at hky
  refine SX.ite hG (fun h2=>?_) (fun h2=>?_)
  ·rw [h2] at hky
   refine call hG [] (bools_ok X g (by omega)) ⟨rfl,rfl,rfl⟩ ?_
   rintro _ _ ⟨x,rfl,rfl,hx⟩
   cbv
   refine call hG [] (bools_ok Y h (by omega)) ⟨rfl,rfl,rfl⟩ ?_
   rintro _ _ ⟨y,rfl,rfl,hy⟩
   cbv
   have hxl:x.length≤128:=by rw [hx,boolL_len];exact lX
   have hyl:y.length≤128:=by rw [hy,boolL_len];exact lY
   refine callQ hG [] (hf x y g hxl hyl) ⟨rfl,rfl,rfl⟩ ?_
   rintro _ _ ⟨r,o,rfl,rfl,hr,ho⟩
   cbv
   refine okd hG rfl ?_
   rw [hx,hy] at hr ho
   refine SX.ite hG (fun h3=>?_) (fun h3=>?_)
   ·rw [h3] at ho
    have hF2:=hF (boolL X) (boolL Y) g (by rw [boolL_len];exact lX) ho.symm
    rw [←hr] at hF2
    refine call hG [] (vector_ok r g (by omega)) ⟨rfl,rfl,rfl⟩ ?_
    rintro _ _ ⟨Z,z,rfl,rfl,hZ,hz⟩
    cbv
    rw [←hg,←hkx,←hky,←ho] at hq
    exact hq _ _ ⟨_,_,rfl,rfl,by rw [hZ,hr];rfl,hz⟩
   ·rw [h3] at ho
    refine call hG [] (fill_ok (.ofNat 2) (G.lu X) g hfw) ⟨rfl,rfl,rfl⟩ ?_
    rintro _ _ ⟨L,g',rfl,rfl,hL,hg'⟩
    cbv
    exact fin L g' hL hg' (by rw [←hkx,←hky,←hg,←ho];rfl)
  ·rw [h2] at hky
   refine call hG [] (fill_ok (.ofNat 2) (G.lu X) g hfw) ⟨rfl,rfl,rfl⟩ ?_
   rintro _ _ ⟨L,g',rfl,rfl,hL,hg'⟩
   cbv
   exact fin L g' hL hg' (by rw [←hkx,←hky];rfl)
 ·rw [h1] at hkx
  refine call hG [] (fill_ok (.ofNat 2) (G.lu X) g hfw) ⟨rfl,rfl,rfl⟩ ?_
  rintro _ _ ⟨L,g',rfl,rfl,hL,hg'⟩
  cbv
  exact fin L g' hL hg' (by rw [←hkx];rfl)
end
theorem cm_post {H:AH} {Q:SV→List SX.Obj→Prop} {v:Value} {H':AH} (h:Cm H Q v H'):∃ m' r ro,Q r ro∧Obs m' ro H'∧ro.all okO=true∧Den (fun id=>Own m' ro id∨id<H.n) m' H' r v∧(∀ id,Own m' ro id→H.n≤id∨Own [] [] id)∧Frm (Own [] []) H H':=by
 obtain ⟨h1,r,h2,h3⟩:=h
 exact ⟨[],r,[],h2,obs_nil _,rfl,h3,fun id ⟨i,o,w,k1,_⟩=>by simp at k1,frm_ext h1⟩
theorem total1_ok (k:Nat) (x y:List Bool) (g:Bool) (F:List Bool) (hr:∀ H v w,IsB H v x→IsB H w y→Run CX k [v,w] H fun r H'=>AL.Ext H H'∧IsR H H' r F):FvC CX TB (.f 167 [] [.p [.fq k [] []]]) [.bl x,.bl y,.b g] [] (RLB F true):=by
 intro H m vf vs ho hgl hdf hda
 obtain rfl:m=[]:=List.length_eq_zero_iff.1 ho.len
 simp only [Den,DenL] at hdf
 obtain ⟨vf',vc,rfl,rfl,wp,ws,rfl,⟨ad,vs0,rfl,⟨wf,ws1,rfl,⟨vf1,vc1,rfl,rfl,rfl⟩,rfl⟩,bk,b1,b2,b3,b4⟩,rfl⟩:=hdf
 obtain ⟨w1,ws2,rfl,d1,w2,ws3,rfl,d2,w3,ws4,rfl,rfl,rfl⟩:=hda
 have i1:=rdS_isB d1
 have i2:=rdS_isB d2
 have c1:=b4 0 _ rfl
 rw [Nat.add_zero] at c1
 refine ⟨167,[],[.pointer (some ad)],rfl,?_⟩
 have key:Run CX 167 [w1,w2,.bool g,.pointer (some ad)] H (Cm H (RLB F true)):=by
  refine Run.intro (fi:=IR.fi167) rfl (by kernel_rfl) ?_
  unfold IR.fi167
  simp only [envOf_cons,envOf_nil]
  refine Cw.seq (Cw.region ?_)
  iterate 2 (refine Ow.popM rfl ?_;simp only [S0,Nat.reduceEqDiff,Nat.reduceAdd,reduceIte,reduceCtorEq])
  refine Ow.nilM ⟨nofun,?_⟩
  refine Cw.seq (Cw.region ?_)
  (refine Ow.hopM rfl rfl ?_;simp only [S0,Nat.reduceEqDiff,Nat.reduceAdd,reduceIte,reduceCtorEq,b3,c1])
  iterate 2 (refine Ow.popM rfl ?_;simp only [S0,Nat.reduceEqDiff,Nat.reduceAdd,reduceIte,reduceCtorEq])
  refine Ow.callE (R:=fun r H1=>IsR { H with wl:=H.n } H1 r F) (k:=k) (fs:=[]) (cs:=[]) (vs:=[w1,w2]) rfl (by simp only [S0,Nat.reduceEqDiff,Nat.reduceAdd,reduceIte,reduceCtorEq]) (by simp only [S0,Nat.reduceEqDiff,Nat.reduceAdd,reduceIte,reduceCtorEq]) (hr _ _ _ i1.wl i2.wl) ?_
  rintro v H1 z hx1 h1
  iterate 2 (refine Ow.popM rfl ?_;simp only [S0,Nat.reduceEqDiff,Nat.reduceAdd,reduceIte,reduceCtorEq])
  refine Ow.nilM ⟨nofun,?_⟩
  refine Cw.ret ?_
  simp only [Then,InBlock,Rnd,FnPost,resOf,tupled,S0,Nat.reduceEqDiff,Nat.reduceAdd,reduceIte,reduceCtorEq]
  exact ⟨hx1,_,⟨_,_,rfl,rfl,rfl,rfl⟩,_,rfl,_,_,rfl,isR_rdS h1,_,_,rfl,rfl,rfl⟩
 exact key.mono fun v H' h=>cm_post h
theorem divide_any {H:AH} {v w:Value} {x y:List Bool} {s:Bool} (hv:IsB H v x) (hw:IsB H w y) (hx:x.length<2^20) (hy:y.length<2^20) :
  Run CX 116 [v,w,.bool s] H fun r H'=>AL.Ext H H'∧∃ u z,r=.tuple ⟨[u,z,.bool (decide (dmE y=0))]⟩∧IsR H H' u (dmQ s x y)∧IsR H H' z (dmR s x y):=by
 have inner:∀ H,IsB H v x→IsB H w y→Run CX (if s then 171 else 170) [v,w] H fun r H'=>AL.Ext H H'∧∃ u z,r=.tuple ⟨[u,z,.int .i64 (dmE y)]⟩∧IsR H H' u (dmQ s x y)∧IsR H H' z (dmR s x y):=by
  intro H hv hw
  unfold dmQ dmR dmE
  cases s with
  | true=>
    refine (X.sdivmod_any ext0V hv hw (by omega) (by omega)).mono fun r H' ⟨h3,h4⟩=>⟨h3,?_⟩
    by_cases h:X.val y=0
    ·rw [if_pos (X.absN_zero.2 h)] at h4
     simp only [if_pos h]
     exact ⟨_,_,h4,.inl ⟨rfl,rfl⟩,.inl ⟨rfl,rfl⟩⟩
    ·rw [if_neg (fun h'=>h (X.absN_zero.1 h'))] at h4
     simp only [if_neg h]
     obtain ⟨u,z,rfl,hu,hz⟩:=h4
     exact ⟨u,z,rfl,hu,hz⟩
  | false=>
    refine (X.divmod_any ext0V hv hw (by omega) (by omega)).mono fun r H' ⟨h3,h4⟩=>⟨h3,?_⟩
    by_cases h:X.val y=0
    ·rw [if_pos h] at h4
     simp only [if_pos h]
     exact ⟨_,_,h4,.inl ⟨rfl,rfl⟩,.inl ⟨rfl,rfl⟩⟩
    ·rw [if_neg h] at h4
     simp only [if_neg h]
     obtain ⟨u,z,rfl,hu,hz⟩:=h4
     exact ⟨u,z,rfl,isM_R hu,hz⟩
 refine Run.intro (fi:=IR.fi116) rfl (by kernel_rfl) ?_
 unfold IR.fi116
 simp only [envOf_cons,envOf_nil]
 refine Cw.seq (Cw.region ?_)
 iterate 3 (refine Ow.popM rfl ?_;simp only [S0,Nat.reduceEqDiff,Nat.reduceAdd,reduceIte,reduceCtorEq])
 refine Ow.nilM ⟨nofun,?_⟩
 refine Cw.seq (Cw.region ?_)
 (refine Ow.popM rfl ?_;simp only [S0,Nat.reduceEqDiff,Nat.reduceAdd,reduceIte,reduceCtorEq])
 refine Ow.nilM ⟨nofun,?_⟩
 refine Cw.seq (Cw.seq (Cw.region ?_))
 (refine Ow.popM rfl ?_;simp only [S0,Nat.reduceEqDiff,Nat.reduceAdd,reduceIte,reduceCtorEq])
 refine Ow.nilM ⟨nofun,?_⟩
 cases s
 ·refine Cw.cond (t:=false) (by simp only [S0,Nat.reduceEqDiff,Nat.reduceAdd,reduceIte,reduceCtorEq]) ?_
  refine Cw.skip ?_
  show Cw _ _ _ _ _
  refine Cw.seq (Cw.region ?_)
  iterate 3 (refine Ow.popM rfl ?_;simp only [S0,Nat.reduceEqDiff,Nat.reduceAdd,reduceIte,reduceCtorEq])
  refine Ow.callE (R:=fun r H1=>∃ u z,r=.tuple ⟨[u,z,.int .i64 (dmE y)]⟩∧IsR { H with wl:=H.n } H1 u (dmQ _ x y)∧IsR { H with wl:=H.n } H1 z (dmR _ x y)) (k:=170) (fs:=[]) (cs:=[]) (vs:=[v,w]) rfl (by simp only [S0,Nat.reduceEqDiff,Nat.reduceAdd,reduceIte,reduceCtorEq]) (by simp only [S0,Nat.reduceEqDiff,Nat.reduceAdd,reduceIte,reduceCtorEq]) (inner _ hv.wl hw.wl) ?_
  rintro r H1 q hx1 ⟨u,z,rfl,hu,hz⟩
  iterate 7 (refine Ow.popM rfl ?_;simp only [S0,Nat.reduceEqDiff,Nat.reduceAdd,reduceIte,reduceCtorEq,List.getElem?_cons_zero,List.getElem?_cons_succ])
  refine Ow.nilM ⟨nofun,?_⟩
  show Cw _ _ _ _ _
  refine Cw.seq (Cw.region ?_)
  iterate 7 (refine Ow.popM rfl ?_;simp only [S0,Nat.reduceEqDiff,Nat.reduceAdd,reduceIte,reduceCtorEq])
  refine Ow.nilM ⟨nofun,?_⟩
  refine Cw.ret ?_
  simp only [Then,InBlock,Rnd,FnPost,resOf,tupled,S0,Nat.reduceEqDiff,Nat.reduceAdd,reduceIte,reduceCtorEq]
  exact ⟨hx1,_,_,rfl,hu,hz⟩
 ·refine Cw.cond (t:=true) (by simp only [S0,Nat.reduceEqDiff,Nat.reduceAdd,reduceIte,reduceCtorEq]) ?_
  refine Cw.region ?_
  (refine Ow.popM rfl ?_;simp only [S0,Nat.reduceEqDiff,Nat.reduceAdd,reduceIte,reduceCtorEq])
  refine Ow.nilM ⟨nofun,?_⟩
  show Cw _ _ _ _ _
  refine Cw.seq (Cw.region ?_)
  iterate 3 (refine Ow.popM rfl ?_;simp only [S0,Nat.reduceEqDiff,Nat.reduceAdd,reduceIte,reduceCtorEq])
  refine Ow.callE (R:=fun r H1=>∃ u z,r=.tuple ⟨[u,z,.int .i64 (dmE y)]⟩∧IsR { H with wl:=H.n } H1 u (dmQ _ x y)∧IsR { H with wl:=H.n } H1 z (dmR _ x y)) (k:=171) (fs:=[]) (cs:=[]) (vs:=[v,w]) rfl (by simp only [S0,Nat.reduceEqDiff,Nat.reduceAdd,reduceIte,reduceCtorEq]) (by simp only [S0,Nat.reduceEqDiff,Nat.reduceAdd,reduceIte,reduceCtorEq]) (inner _ hv.wl hw.wl) ?_
  rintro r H1 q hx1 ⟨u,z,rfl,hu,hz⟩
  iterate 7 (refine Ow.popM rfl ?_;simp only [S0,Nat.reduceEqDiff,Nat.reduceAdd,reduceIte,reduceCtorEq,List.getElem?_cons_zero,List.getElem?_cons_succ])
  refine Ow.nilM ⟨nofun,?_⟩
  show Cw _ _ _ _ _
  refine Cw.seq (Cw.region ?_)
  iterate 7 (refine Ow.popM rfl ?_;simp only [S0,Nat.reduceEqDiff,Nat.reduceAdd,reduceIte,reduceCtorEq])
  refine Ow.nilM ⟨nofun,?_⟩
  refine Cw.ret ?_
  simp only [Then,InBlock,Rnd,FnPost,resOf,tupled,S0,Nat.reduceEqDiff,Nat.reduceAdd,reduceIte,reduceCtorEq]
  exact ⟨hx1,_,_,rfl,hu,hz⟩
theorem total_ok (k:Nat):FvC CX TB (.f 113 [] []) [.fq k [] []] [] (fun r ro=>r=.f 167 [] [.o 0 0]∧ro=[.x [.fq k [] []]]):=by
 refine fn_ok rfl rfl fun B D G hG q hq=>?_
 cbv
 exact hq _ _ ⟨rfl,rfl⟩
end Go.Proofs.YtdgbdkfoeaollaaGreatDoor.V
end
section
set_option linter.unusedSimpArgs false
set_option linter.unusedVariables false
namespace Go.Proofs.YtdgbdkfoeaollaaGreatDoor.V
open Go Go.AL Go.SX
theorem br3 {k:Nat} {x y:List Bool} {g:Bool} {Q:SV→List SX.Obj→Prop} (h:∀ H v w,IsB H v x→IsB H w y→Run CX k [v,w,.bool g] H (Cm H Q)):FvC CX TB (.f k [] []) [.bl x,.bl y,.b g] [] Q:=
 br_any fun H vs hd=>by
  obtain ⟨w,ws,rfl,h1,w',ws',rfl,h2,w3,ws3,rfl,rfl,rfl⟩:=hd
  exact h H w w' (rdS_isB h1) (rdS_isB h2)
theorem div1_ok (x y:List Bool) (g:Bool) (hx:x.length<2^20) (hy:y.length<2^20):FvC CX TB (.f 115 [] []) [.bl x,.bl y,.b g] [] (RLB (dmQ g x y) (decide (dmE y=0))):=
 br3 fun H v w hv hw=>by
  refine Run.intro (fi:=IR.fi115) rfl (by kernel_rfl) ?_
  unfold IR.fi115
  simp only [envOf_cons,envOf_nil]
  refine Cw.seq (Cw.region ?_)
  iterate 2 (refine Ow.popM rfl ?_;simp only [S0,Nat.reduceEqDiff,Nat.reduceAdd,reduceIte,reduceCtorEq])
  refine Ow.nilM ⟨nofun,?_⟩
  refine Cw.seq (Cw.region ?_)
  iterate 3 (refine Ow.popM rfl ?_;simp only [S0,Nat.reduceEqDiff,Nat.reduceAdd,reduceIte,reduceCtorEq])
  refine Ow.callE (R:=fun r H1=>∃ u z,r=.tuple ⟨[u,z,.bool (decide (dmE y=0))]⟩∧IsR { H with wl:=H.n } H1 u (dmQ g x y)∧IsR { H with wl:=H.n } H1 z (dmR g x y)) (k:=116) (fs:=[]) (cs:=[]) (vs:=[v,w,.bool g]) rfl (by simp only [S0,Nat.reduceEqDiff,Nat.reduceAdd,reduceIte,reduceCtorEq]) (by simp only [S0,Nat.reduceEqDiff,Nat.reduceAdd,reduceIte,reduceCtorEq]) (divide_any hv.wl hw.wl hx hy) ?_
  rintro r H1 q hx1 ⟨u,z,rfl,hu,hz⟩
  iterate 7 (refine Ow.popM rfl ?_;simp only [S0,Nat.reduceEqDiff,Nat.reduceAdd,reduceIte,reduceCtorEq,List.getElem?_cons_zero,List.getElem?_cons_succ])
  refine Ow.nilM ⟨nofun,?_⟩
  show Cw _ _ _ _ _
  refine Cw.seq (Cw.region ?_)
  iterate 4 (refine Ow.popM rfl ?_;simp only [S0,Nat.reduceEqDiff,Nat.reduceAdd,reduceIte,reduceCtorEq])
  refine Ow.nilM ⟨nofun,?_⟩
  refine Cw.ret ?_
  simp only [Then,InBlock,Rnd,FnPost,resOf,tupled,S0,Nat.reduceEqDiff,Nat.reduceAdd,reduceIte,reduceCtorEq]
  exact ⟨hx1,_,⟨_,_,rfl,rfl,rfl,rfl⟩,_,rfl,_,_,rfl,isR_rdS hu,_,_,rfl,rfl,rfl⟩
theorem mod1_ok (x y:List Bool) (g:Bool) (hx:x.length<2^20) (hy:y.length<2^20):FvC CX TB (.f 117 [] []) [.bl x,.bl y,.b g] [] (RLB (dmR g x y) (decide (dmE y=0))):=
 br3 fun H v w hv hw=>by
  refine Run.intro (fi:=IR.fi117) rfl (by kernel_rfl) ?_
  unfold IR.fi117
  simp only [envOf_cons,envOf_nil]
  refine Cw.seq (Cw.region ?_)
  iterate 2 (refine Ow.popM rfl ?_;simp only [S0,Nat.reduceEqDiff,Nat.reduceAdd,reduceIte,reduceCtorEq])
  refine Ow.nilM ⟨nofun,?_⟩
  refine Cw.seq (Cw.region ?_)
  iterate 3 (refine Ow.popM rfl ?_;simp only [S0,Nat.reduceEqDiff,Nat.reduceAdd,reduceIte,reduceCtorEq])
  refine Ow.callE (R:=fun r H1=>∃ u z,r=.tuple ⟨[u,z,.bool (decide (dmE y=0))]⟩∧IsR { H with wl:=H.n } H1 u (dmQ g x y)∧IsR { H with wl:=H.n } H1 z (dmR g x y)) (k:=116) (fs:=[]) (cs:=[]) (vs:=[v,w,.bool g]) rfl (by simp only [S0,Nat.reduceEqDiff,Nat.reduceAdd,reduceIte,reduceCtorEq]) (by simp only [S0,Nat.reduceEqDiff,Nat.reduceAdd,reduceIte,reduceCtorEq]) (divide_any hv.wl hw.wl hx hy) ?_
  rintro r H1 q hx1 ⟨u,z,rfl,hu,hz⟩
  iterate 7 (refine Ow.popM rfl ?_;simp only [S0,Nat.reduceEqDiff,Nat.reduceAdd,reduceIte,reduceCtorEq,List.getElem?_cons_zero,List.getElem?_cons_succ])
  refine Ow.nilM ⟨nofun,?_⟩
  show Cw _ _ _ _ _
  refine Cw.seq (Cw.region ?_)
  iterate 4 (refine Ow.popM rfl ?_;simp only [S0,Nat.reduceEqDiff,Nat.reduceAdd,reduceIte,reduceCtorEq])
  refine Ow.nilM ⟨nofun,?_⟩
  refine Cw.ret ?_
  simp only [Then,InBlock,Rnd,FnPost,resOf,tupled,S0,Nat.reduceEqDiff,Nat.reduceAdd,reduceIte,reduceCtorEq]
  exact ⟨hx1,_,⟨_,_,rfl,rfl,rfl,rfl⟩,_,rfl,_,_,rfl,isR_rdS hz,_,_,rfl,rfl,rfl⟩
theorem dm_len {g:Bool} {x y:List Bool} (h:dmE y=0):(dmQ g x y).length=x.length∧(dmR g x y).length=x.length:=by
 unfold dmE at h
 split at h
 ·cases h
 ·rename_i h1
  unfold dmQ dmR
  rw [if_neg h1,if_neg h1]
  cases g with
  | true=>exact ⟨X.squo_length _ _,X.srem_length _ _⟩
  | false=>exact ⟨ofN_len _ _,ofN_len _ _⟩
section
variable (l m:List Int) (s t:Bool) (hl:l.length<2^14) (hm:m.length<2^14) (bl:Byt l) (bm:Byt m)
include hl hm bl bm
def toL (F:List Bool→List Bool→List Bool) (l:List Int) (s:Bool) (m:List Int) (t:Bool):List Int:=arL (fun x y _=>F x y) (fun _ _ _=>true) l s m t
theorem vadd_ok:FvC CX TB (.f 30 [] []) [.a [.u l,.b s],.a [.u m,.b t]] [] (RV (toL addF l s m t) (bg l s m t)):=by
 refine fn_ok rfl rfl fun B D G hG q hq=>?_
 cbv
 refine call hG [] (total_ok 114) ⟨rfl,rfl,rfl⟩ ?_
 rintro _ _ ⟨rfl,rfl⟩
 cbv
 refine call hG [] (arith_ok l m s t hl hm bl bm 167 [] [.p [.fq 114 [] []]] (fun x y _=>addF x y) (fun _ _ _=>true) (fun x y g h _=>by show (X.ofN _ _).length≤_;rw [ofN_len];exact h) (fun x y g h1 h2=>fq_ok (total1_ok _ x y g _ (fun H v w i1 i2=>(X.add_any ext0V i1 i2 (by omega)).mono fun r H' ⟨h3,h4⟩=>⟨h3,isM_R h4⟩)))) ⟨rfl,rfl,rfl⟩ ?_
 rintro _ _ ⟨L,h,rfl,rfl,hL,hh⟩
 cbv
 exact okd hG rfl (hq _ _ ⟨_,_,rfl,rfl,hL,hh⟩)
theorem vsub_ok:FvC CX TB (.f 80 [] []) [.a [.u l,.b s],.a [.u m,.b t]] [] (RV (toL subF l s m t) (bg l s m t)):=by
 refine fn_ok rfl rfl fun B D G hG q hq=>?_
 cbv
 refine call hG [] (total_ok 148) ⟨rfl,rfl,rfl⟩ ?_
 rintro _ _ ⟨rfl,rfl⟩
 cbv
 refine call hG [] (arith_ok l m s t hl hm bl bm 167 [] [.p [.fq 148 [] []]] (fun x y _=>subF x y) (fun _ _ _=>true) (fun x y g h _=>by show (X.ofN _ _).length≤_;rw [ofN_len];exact h) (fun x y g h1 h2=>fq_ok (total1_ok _ x y g _ (fun H v w i1 i2=>(X.sub_any ext0V i1 i2 (by omega)).mono fun r H' ⟨h3,h4⟩=>⟨h3,isM_R h4⟩)))) ⟨rfl,rfl,rfl⟩ ?_
 rintro _ _ ⟨L,h,rfl,rfl,hL,hh⟩
 cbv
 exact okd hG rfl (hq _ _ ⟨_,_,rfl,rfl,hL,hh⟩)
def dvO (_ y:List Bool) (_:Bool):Bool:=decide (dmE y=0)
def divL (l:List Int) (s:Bool) (m:List Int) (t:Bool):List Int:=arL (fun x y g=>dmQ g x y) dvO l s m t
def modL (l:List Int) (s:Bool) (m:List Int) (t:Bool):List Int:=arL (fun x y g=>dmR g x y) dvO l s m t
theorem vdiv_ok:FvC CX TB (.f 32 [] []) [.a [.u l,.b s],.a [.u m,.b t]] [] (RV (divL l s m t) (bg l s m t)):=by
 refine fn_ok rfl rfl fun B D G hG q hq=>?_
 cbv
 refine call hG [] (arith_ok l m s t hl hm bl bm 115 [] [] (fun x y g=>dmQ g x y) dvO (fun x y g h ho=>by rw [(dm_len (of_decide_eq_true ho)).1];exact h) (fun x y g h1 h2=>fq_ok (div1_ok x y g (by omega) (by omega)))) ⟨rfl,rfl,rfl⟩ ?_
 rintro _ _ ⟨L,h,rfl,rfl,hL,hh⟩
 cbv
 exact hq _ _ ⟨_,_,rfl,rfl,hL,hh⟩
theorem vmod_ok:FvC CX TB (.f 34 [] []) [.a [.u l,.b s],.a [.u m,.b t]] [] (RV (modL l s m t) (bg l s m t)):=by
 refine fn_ok rfl rfl fun B D G hG q hq=>?_
 cbv
 refine call hG [] (arith_ok l m s t hl hm bl bm 117 [] [] (fun x y g=>dmR g x y) dvO (fun x y g h ho=>by rw [(dm_len (of_decide_eq_true ho)).2];exact h) (fun x y g h1 h2=>fq_ok (mod1_ok x y g (by omega) (by omega)))) ⟨rfl,rfl,rfl⟩ ?_
 rintro _ _ ⟨L,h,rfl,rfl,hL,hh⟩
 cbv
 exact hq _ _ ⟨_,_,rfl,rfl,hL,hh⟩
end
def negL (l:List Int) (s:Bool):List Int:=toL subF (List.replicate (nB l).length 0) (nS l s) (nB l) (nS l s)
theorem byt_rep (n:Nat):Byt (List.replicate n 0):=fun x hx=>by rw [(List.mem_replicate.1 hx).2];exact Int.le_refl 0
theorem vneg_ok (l:List Int) (s:Bool) (hl:l.length<2^15) (hb:Byt l):FvC CX TB (.f 49 [] []) [.a [.u l,.b s]] [] (RV (negL l s) (bg (List.replicate (nB l).length 0) (nS l s) (nB l) (nS l s))):=by
 have nv:=nB_nv hb
 unfold negL
 refine fn_ok rfl rfl fun B D G hG q hq=>?_
 cbv
 refine call hG [] (norm_ok l s hl) ⟨rfl,rfl,rfl⟩ ?_
 rintro _ _ ⟨M,t,rfl,rfl,hM,ht⟩
 cbv
 have nvM:NV M:=by rw [hM];exact nv
 have hlen:=nvM.len
 rw [←hM,←ht] at hq
 refine call hG [] (fill_ok (.ofNat 0) (G.lu M) t (by rw [hG];show 0≤((M.length:Nat):Int)∧((M.length:Nat):Int)<2^15;omega)) ⟨rfl,rfl,rfl⟩ ?_
 rintro _ _ ⟨Z,z,rfl,rfl,hZ,hz⟩
 cbv
 have eZ:Z=List.replicate M.length 0:=by rw [hZ,hG];rfl
 refine call hG [] (vsub_ok Z M z t (by rw [eZ,List.length_replicate];omega) (by omega) (by rw [eZ];exact byt_rep _) (byt_nv nvM)) ⟨rfl,rfl,rfl⟩ ?_
 rintro _ _ ⟨L,h,rfl,rfl,hL,hh⟩
 cbv
 exact okd hG rfl (hq _ _ ⟨_,_,rfl,rfl,by rw [hL,eZ,hz],by rw [hh,eZ,hz]⟩)
end Go.Proofs.YtdgbdkfoeaollaaGreatDoor.V
end
