/- Reductions; balance and what stands on it. -/
import Derived.Test.YtdgbdkfoeaollaaGreatDoorVA
import Derived.Test.YtdgbdkfoeaollaaGreatDoorALe
import Derived.Test.YtdgbdkfoeaollaaGreatDoorBV
section
set_option linter.unusedSimpArgs false
set_option linter.unusedVariables false
namespace Go.Proofs.YtdgbdkfoeaollaaGreatDoor.V
open Go Go.AL Go.SX
def bg (l:List Int) (s:Bool) (m:List Int) (t:Bool):Bool:=nS l s&&nS m t
def bwd (l m:List Int):Nat:=Nat.max (nB l).length (nB m).length
def bX (l:List Int) (s:Bool) (m:List Int) (t:Bool):List Int:=rsz (nB l) (bg l s m t) (bwd l m)
def bY (l:List Int) (s:Bool) (m:List Int) (t:Bool):List Int:=rsz (nB m) (bg l s m t) (bwd l m)
def RP (L M:List Int) (g:Bool) (r:SV) (ro:List SX.Obj):Prop:=∃ L' M' g' h',r=.t [.a [.s 0,.b g'],.a [.s 1,.b h']]∧ro=[.u L',.u M']∧L'=L∧M'=M∧g'=g∧h'=g
def balOps:List IOper:=[⟨(some 29),none,(.load (some 2) (.tmp 2))⟩,⟨(some 30),none,(.mov (.tmp 7))⟩,⟨(some 31),none,(.call (.func 106) [(.tmp 29),(.tmp 30)])⟩,⟨(some 32),none,(.load (some 2) (.tmp 3))⟩,⟨(some 33),none,(.mov (.tmp 7))⟩,⟨(some 34),none,(.call (.func 106) [(.tmp 32),(.tmp 33)])⟩,⟨none,none,(.store 2 (.tmp 4) (.tmp 31))⟩,⟨none,none,(.store 2 (.tmp 5) (.tmp 34))⟩]
def tailB:IC:=.seq (.region true balOps [0,0,3,0,0,31,63,127]) .ret
def stB (X Y:List Int) (g:Bool) (w:Int):St:=⟨((((T.nil.set 2 (SV.o 0 0)).set 3 (.o 1 0)).set 4 (.o 2 0)).set 5 (.o 3 0)).set 7 (.i .i64 w),[.x [.s 4,.b g],.x [.s 5,.b g],.x [.nil,.kb false],.x [.nil,.kb false],.u X,.u Y]⟩
def obB (X Y:List Int):List SX.Obj:=[.dead,.dead,.x [.nil,.kb false],.x [.nil,.kb false],.u X,.u Y]
def stB2 (X Y:List Int) (g:Bool) (w:Int):St:=⟨((((T.nil.set 2 (SV.p [.s 4,.b g])).set 3 (.p [.s 5,.b g])).set 4 (.o 2 0)).set 5 (.o 3 0)).set 7 (.i .i64 w),obB X Y⟩
def balK (q:SV→List SX.Obj→Prop):St→List (Bool×Bool)→Prop:=fun s' fl=>fl=[(true,false),(false,false),(true,true),(true,false),(false,false),(true,true),(true,true),(true,true)]∧post [.cell 4 (some 2),.cell 5 (some 2)] q .ret s'
theorem bal_wo {B:AH} {D:Bs} {G:Sg} (hG:G=std CX TB B D) (X Y:List Int) (g:Bool) (w:Int) (hX:X≠[]) (hY:Y≠[]) (lX:X.length<2^14) (lY:Y.length<2^14) (hw:1≤w∧w<2^14) (q:SV→List SX.Obj→Prop)
  (hq:∀ L M g' h',L=rsz X g w.toNat→M=rsz Y g w.toNat→g'=g→h'=g→q (.t [.a [.s 0,.b g'],.a [.s 1,.b h']]) [.u L,.u M]):WO G TB balOps (stB2 X Y g w) [] (balK q):=by
 cbv
 refine call hG [4] (resize_ok X g w hX lX hw) ⟨rfl,rfl,rfl⟩ ?_
 rintro _ _ ⟨L,g1,rfl,rfl,hL,hg1⟩
 cbv
 refine call hG [5] (resize_ok Y g w hY lY hw) ⟨rfl,rfl,rfl⟩ ?_
 rintro _ _ ⟨M,g2,rfl,rfl,hM,hg2⟩
 cbv
 exact hq L M g1 g2 hL hM hg1 hg2
theorem obB_sub {X Y:List Int} {g:Bool} {w:Int}:∀ (i:Nat) (o:SX.Obj),(obB X Y)[i]?=some o→o=SX.Obj.dead∨(stB X Y g w).objs[i]?=some o:=by
 intro i o h
 match i,h with
 | 0,h=>cases h;exact .inl rfl
 | 1,h=>cases h;exact .inl rfl
 | i+2,h=>exact .inr h
theorem obB_own {m:List Value} {X Y:List Int} {g:Bool} {w:Int}:∀ id,Own m (obB X Y) id→Own m (stB X Y g w).objs id:=by
 rintro id ⟨i,o,v,h1,h2,h3,h4⟩
 rcases obB_sub i o h1 with h | h
 ·exact absurd h h2
 ·exact ⟨i,o,v,h,h2,h3,h4⟩
theorem bal_tail {B:AH} {D:Bs} {m:List Value} {E:Env} {H:AH} (X Y:List Int) (g:Bool) (w:Int) (hs:Sat TB B D m (stB X Y g w) E H) (id3:Nat) (hi:m[1]?=some (.pointer (some ⟨id3,0,none⟩))) (hlow:∀ id,Own m (obB X Y) id→id3<id) (hX:X≠[]) (hY:Y≠[]) (lX:X.length<2^14) (lY:Y.length<2^14) (hw:1≤w∧w<2^14) (q:SV→List SX.Obj→Prop)
  (hq:∀ L M g' h',L=rsz X g w.toNat→M=rsz Y g w.toNat→g'=g→h'=g→q (.t [.a [.s 0,.b g'],.a [.s 1,.b h']]) [.u L,.u M]):Cw CX tailB E H fun c E' H'=>∃ s' m',post [.cell 4 (some 2),.cell 5 (some 2)] q c s'∧Sat TB B ⟨D.d,fun _=>none⟩ m' s' E' H':=by
 have hsub:=obB_sub (X:=X) (Y:=Y) (g:=g) (w:=w)
 have hO0:=obB_own (m:=m) (X:=X) (Y:=Y) (g:=g) (w:=w)
 have box:∀ (t i c:Nat),(stB X Y g w).env.get t=some (.o i 0)→(stB X Y g w).objs[i]?=some (.x [.s c,.b g])→(obB X Y)[i]?=some SX.Obj.dead→∃ v,E.get t=some v∧Den (Own m (obB X Y)) m H (.p [.s c,.b g]) v:=by
  intro t i c h1 h2 h3
  obtain ⟨v,e1,id,e2,rfl⟩:=hs.env t _ h1
  obtain ⟨id',vs,h4,h5,h6,h7⟩:=hs.obs.ok i _ _ h2 e2
  cases h4
  refine ⟨_,e1,⟨id,0,none⟩,vs,rfl,DenL.mono (H:=H) (H':=H) (fun id _ h=>hO0 id h) (Nat.le_refl _) (fun _ _ _=>rfl) _ _ (fun _ _ _ h=>h) h7,⟨vs,0⟩,h5,?_,h6,?_⟩
  ·rintro ⟨j,o,v,k1,k2,k3,k4⟩
   have:=hs.obs.dis i j _ o _ v id h2 (by intro h;cases h) ((hsub j o k1).resolve_left k2) k2 e2 k3 rfl k4
   subst this
   rw [h3] at k1;cases k1;exact k2 rfl
  ·intro j v hv
   show vs[0+j]?=some v
   rw [Nat.zero_add];exact hv
 obtain ⟨hO,hk⟩:=hs.kill (env':=(stB2 X Y g w).env) (objs':=obB X Y) rfl hsub (by
   intro t x h
   simp only [stB2,T.get_set] at h
   split at h
   ·cases h;rename_i e;subst e
    obtain ⟨v,e1,e2⟩:=hs.env 7 (.i .i64 w) rfl
    exact ⟨v,e1,e2⟩
   split at h
   ·cases h;rename_i e;subst e
    obtain ⟨v,e1,e2⟩:=hs.env 5 (.o 3 0) rfl
    exact ⟨v,e1,e2⟩
   split at h
   ·cases h;rename_i e;subst e
    obtain ⟨v,e1,e2⟩:=hs.env 4 (.o 2 0) rfl
    exact ⟨v,e1,e2⟩
   split at h
   ·cases h;rename_i e;subst e
    exact box 3 1 5 rfl rfl rfl
   split at h
   ·cases h;rename_i e;subst e
    exact box 2 0 4 rfl rfl rfl
   ·cases h)
 refine Cw.seq (Cw.region3 ?_)
 refine (Ow.len (Ow.unset (t:=3) rfl (WO_ok (fl:=[]) (os:=balOps) (K:=balK q) (bal_wo rfl X Y g w hX hY lX lY hw q hq) hk))).mono ?_
 rintro E' H' fl ⟨⟨⟨s',m',f,⟨hf,hp⟩,hle,hs'⟩,q3⟩,hlen⟩
 subst hf
 obtain ⟨p3,e3,i3,k3,rfl⟩:=hs.env 3 (.o 1 0) rfl
 rw [hi] at k3;cases k3
 obtain ⟨b3,_⟩:id3<H.n∧True:=by
  obtain ⟨id',vs,h1,h2,-⟩:=hs.obs.ok 1 (.x [.s 5,.b g]) _ rfl hi
  cases h1;exact ⟨h2,trivial⟩
 have q3':T.get E' 3=some (.pointer (some ⟨id3,0,none⟩)):=by rw [q3];exact e3
 have hwl:id3+1≤H'.wl:=hs'.fr.wl (id3+1) b3 b3 fun id h=>hlow id h
 refine ⟨mark2_ok 3 (by simp [hlen]) hle ?_ (by decide),fun y hy=>?_⟩
 ·simp only [balOps,List.drop_succ_cons,List.drop_zero,markC,Bool.and_eq_true]
  refine ⟨?_,?_⟩
  ·simp only [oldLoad,q3',Bool.and_eq_true]
   exact ⟨Nat.ble_eq_true_of_le b3,by decide⟩
  ·simp only [loadBlk,q3']
   exact missed_ok fun i o os' h1 h2=>.inl hwl
 ·exact Cw.ret ⟨s',m',hp,hs.back2 hs' hO hy⟩
theorem nB_any (l:List Int):nB l≠[]∧(nB l).length≤128:=by
 unfold nB
 split
 ·rename_i h
  unfold chk at h
  split at h
  ·cases h
  ·split at h
   ·cases h
   ·rename_i h1 h2
    exact ⟨fun e=>h1 (by rw [e];rfl),by omega⟩
 ·exact ⟨by simp,by simp⟩
theorem balance_ok (l m:List Int) (s t:Bool) (hl:l.length<2^14) (hm:m.length<2^14):FvC CX TB (.f 98 [] []) [.a [.u l,.b s],.a [.u m,.b t]] [] (RP (bX l s m t) (bY l s m t) (bg l s m t)):=by
 refine fn_sws rfl rfl fun B d q hq m0 E H hs=>?_
 refine Cw.seq (Cw.region ?_)
 refine wop_ok (K:=fun x s' f=>x=.o 0 0∧s'=⟨envS [.a [.u l,.b s],.a [.u m,.b t]] 0,[.x [.u l,.b s]]⟩) rfl (by cbv) hs fun x s1 f E1 H1 m1 b ⟨hx,hs'⟩ hs1 _=>?_
 subst hx hs'
 refine wop_ok (K:=fun x s' f=>x=.o 1 0∧s'=⟨((envS [.a [.u l,.b s],.a [.u m,.b t]] 0).set 2 (.o 0 0)),[.x [.u l,.b s],.x [.u m,.b t]]⟩) rfl (by cbv) hs1 fun x s2 f E2 H2 m2 b ⟨hx,hs'⟩ hs2 _=>?_
 subst hx hs'
 obtain ⟨p2,e2,id2,k2,rfl⟩:=hs2.env 2 (.o 0 0) rfl
 obtain ⟨p3,e3,id3,k3,rfl⟩:=hs2.env 3 (.o 1 0) rfl
 have b3:id3<H2.n:=by
  obtain ⟨id',vs,h1,h2,-⟩:=hs2.obs.ok 1 (.x [.u m,.b t]) _ rfl k3
  cases h1;exact h2
 obtain ⟨D,hD⟩:∃ D:Bs,D=⟨Own m2 [.x [.u l,.b s],.x [.u m,.b t]],boxM m2 [.x [.u l,.b s],.x [.u m,.b t]]⟩:=⟨_,rfl⟩
 have hs3:Sat TB H2 D m2 (SX.St.put ⟨((envS [.a [.u l,.b s],.a [.u m,.b t]] 0).set 2 (.o 0 0)),[.x [.u l,.b s],.x [.u m,.b t]]⟩ (some 3) (.o 1 0)) E2 H2:=by
  subst hD
  refine ⟨hs2.obs,fun id h=>.inr h,hs2.env,⟨Nat.le_refl _,fun _ _ _=>rfl,fun x h _ _=>h⟩,fun i v hv=>?_,hs2.gl⟩
  change boxM m2 [.x [.u l,.b s],.x [.u m,.b t]] i=some v at hv
  unfold boxM at hv
  split at hv
  ·rename_i cs hc;exact ⟨hv,cs,hc⟩
  ·exact (by cases hv)
 have f2:∀ {m:List Value} {s:St} {E:Env} {H:AH},Sat TB H2 D m s E H→m[0]?=some (.pointer (some ⟨id2,0,none⟩))∧m[1]?=some (.pointer (some ⟨id3,0,none⟩)):=by
  intro m s E H hs
  subst hD
  exact ⟨(hs.fix 0 _ k2).1,(hs.fix 1 _ k3).1⟩
 obtain ⟨G,hG⟩:∃ G,G=std CX TB H2 D:=⟨_,rfl⟩
 refine (WO_ok (fl:=[]) (K:=fun s' fl=>s'=⟨((((envS [.a [.u l,.b s],.a [.u m,.b t]] 0).set 2 (.o 0 0)).set 3 (.o 1 0)).set 4 (.o 2 0)).set 5 (.o 3 0),[.x [.u l,.b s],.x [.u m,.b t],.x [.nil,.kb false],.x [.nil,.kb false]]⟩) (by cbv) hs3).mono ?_
 rintro E4 H4 fl ⟨s4,m4,fl4,hK,-,hs4⟩
 subst hK
 refine ⟨fun h=>(by cases h),?_⟩
 have h2own:∀ id,D.d id→Own m2 [.x [.u l,.b s],.x [.u m,.b t]] id:=by subst hD;exact fun _ h=>h
 refine Cw.mono (Q:=fun c E' H'=>∃ s' m',post [.cell 4 (some 2),.cell 5 (some 2)] q c s'∧Sat TB H2 ⟨D.d,fun _=>none⟩ m' s' E' H') ?_ fun c E' H' ⟨s',m',hp,hs'⟩=>⟨s',m',hp,hs2.trans hs' h2own⟩
 refine cw_seq hG hs4 fun R hR=>?_
 cbv
 refine call hG [] (norm_ok l s (by omega)) ⟨rfl,rfl,rfl⟩ ?_
 rintro _ _ ⟨X,g1,rfl,rfl,hX,hg1⟩
 cbv
 refine call hG [] (norm_ok m t (by omega)) ⟨rfl,rfl,rfl⟩ ?_
 rintro _ _ ⟨Y,g2,rfl,rfl,hY,hg2⟩
 cbv
 refine okd hG rfl ?_
 refine hR _ ?_
 clear hR R hs4
 intro m4 E4 H4 hs4
 have aX:=nB_any l
 have aY:=nB_any m
 rw [←hX] at aX
 rw [←hY] at aY
 have em:G.mx (G.lu X) (G.lu Y)=(bwd l m:Int):=by
  unfold bwd
  rw [←hX,←hY]
  subst hG
  show AL.mx ((X.length:Nat):Int) ((Y.length:Nat):Int)=((max X.length Y.length:Nat):Int)
  unfold AL.mx
  simp
  omega
 have hw:1≤G.mx (G.lu X) (G.lu Y)∧G.mx (G.lu X) (G.lu Y)<2^14:=by
  rw [em]
  unfold bwd
  rw [←hX,←hY]
  have:=List.length_pos_iff.2 aX.1
  have h1:=aX.2;have h2:=aY.2
  show 1≤((max X.length Y.length:Nat):Int)∧((max X.length Y.length:Nat):Int)<2^14
  omega
 have lX:X.length<2^14:=by have:=aX.2;omega
 have lY:Y.length<2^14:=by have:=aY.2;omega
 have hq2:∀ g,g=(g1&&g2)→∀ L M g' h',L=rsz X g (G.mx (G.lu X) (G.lu Y)).toNat→M=rsz Y g (G.mx (G.lu X) (G.lu Y)).toNat→g'=g→h'=g→q (.t [.a [.s 0,.b g'],.a [.s 1,.b h']]) [.u L,.u M]:=by
  intro g hg L M g' h' e1 e2 e3 e4
  rw [em,hX,hg,hg1,hg2] at e1
  rw [em,hY,hg,hg1,hg2] at e2
  rw [hg,hg1,hg2] at e3 e4
  exact hq _ _ ⟨L,M,g',h',rfl,rfl,e1,e2,e3,e4⟩
 have hlow:∀ {m4:List Value} {E4:Env} {H4:AH} {g:Bool} {w:Int},Sat TB H2 D m4 (stB X Y g w) E4 H4→m4[0]?=some (.pointer (some ⟨id2,0,none⟩))→m4[1]?=some (.pointer (some ⟨id3,0,none⟩))→∀ id,Own m4 (obB X Y) id→id3<id:=by
  intro m4 E4 H4 g w hs c2 c3 id ho
  rcases hs.own id (obB_own id ho) with h | h
  ·omega
  ·exfalso
   obtain ⟨i,o,v,a1,a2,a3,a4⟩:=ho
   have a5:=(obB_sub (g:=g) (w:=w) i o a1).resolve_left a2
   obtain ⟨j,o',v',d1,d2,d3,d4⟩:=h2own id h
   match j,d1,d3 with
   | 0,d1,d3=>
     rw [k2] at d3;cases d3;cases d4
     have:=hs.obs.dis 0 i _ o _ v id2 rfl (by intro h;cases h) a5 a2 c2 a3 rfl a4
     subst this
     cases a1;exact a2 rfl
   | 1,d1,d3=>
     rw [k3] at d3;cases d3;cases d4
     have:=hs.obs.dis 1 i _ o _ v id3 rfl (by intro h;cases h) a5 a2 c3 a3 rfl a4
     subst this
     cases a1;exact a2 rfl
   | j+2,d1,d3=>cases d1
 refine cw_seqP hG hs4 fun P R hP hR=>?_
 have key:∀ g,g=(g1&&g2)→P ⟨(((((T.nil.set 2 (SV.o 0 0)).set 3 (.o 1 0)).set 4 (.o 2 0)).set 5 (.o 3 0)).set 6 (.b g)),[.x [.s 4,.b g1],.x [.s 5,.b g2],.x [.nil,.kb false],.x [.nil,.kb false],.u X,.u Y]⟩:=by
  intro g hg
  rw [hP]
  clear hP hR P R hs4
  intro m4 E4 H4 hs4
  refine cw_seq hG hs4 fun R hR=>?_
  cbv
  refine hR _ ?_
  clear hR R hs4
  intro m4 E4 H4 hs4
  refine cw_seq hG hs4 fun R hR=>?_
  cbv
  refine hR _ ?_
  clear hR R hs4
  intro m4 E4 H4 hs4
  have hs5:=hs4.less (stB X Y g (G.mx (G.lu X) (G.lu Y))).env (by cbv<;>simp)
  obtain ⟨c2,c3⟩:=f2 hs4
  exact bal_tail X Y g (G.mx (G.lu X) (G.lu Y)) hs5 id3 c3 (hlow hs5 c2 c3) aX.1 aY.1 lX lY hw q (hq2 g hg)
 cbv
 refine SX.ite hG (fun h1=>?_) (fun h1=>?_)
 ·exact hR _ (lessP hP _ (by cbv<;>simp) (key g2 (by rw [h1];rfl)))
 ·exact hR _ (lessP hP _ (by cbv<;>simp) (key false (by rw [h1];rfl)))
theorem bwd_r {l m:List Int} (hl:Byt l) (hm:Byt m):1≤bwd l m∧bwd l m≤128:=by
 have h1:=nB_nv hl
 have h2:=nB_nv hm
 have:=h1.len;have:=h2.len;have:=List.length_pos_iff.2 h1.ne
 unfold bwd
 show 1≤max _ _∧max _ _≤_
 omega
theorem bX_nv {l m:List Int} {s t:Bool} (hl:Byt l) (hm:Byt m):NV (bX l s m t):=rsz_nv (nB_nv hl) (bwd_r hl hm).1 (bwd_r hl hm).2
theorem bY_nv {l m:List Int} {s t:Bool} (hl:Byt l) (hm:Byt m):NV (bY l s m t):=rsz_nv (nB_nv hm) (bwd_r hl hm).1 (bwd_r hl hm).2
theorem bX_len {l m:List Int} {s t:Bool}:(bX l s m t).length=bwd l m:=rsz_len
theorem bY_len {l m:List Int} {s t:Bool}:(bY l s m t).length=bwd l m:=rsz_len
def zipW (f:Int→Int→Int) (l m:List Int):List Int:=(List.range l.length).map fun i=>f (gu l (i:Nat)) (gu m (i:Nat))
theorem zipW_len {f:Int→Int→Int} {l m:List Int}:(zipW f l m).length=l.length:=by simp [zipW]
theorem zipW_get {f:Int→Int→Int} {l m:List Int} {i:Nat} (h:i<l.length):gu (zipW f l m) i=f (gu l i) (gu m i):=by
 unfold zipW
 show ((((List.range l.length).map fun i=>f (gu l (i:Nat)) (gu m (i:Nat)))[((i:Nat):Int).toNat]?).getD 0)=_
 rw [Int.toNat_natCast,List.getElem?_map,List.getElem?_range h];rfl
theorem zipW_nv {f:Int→Int→Int} {l m:List Int} (hl:NV l) (hm:NV m) (he:l.length=m.length) (hf4:∀ x y,V4 x→V4 y→V4 (f x y)):NV (zipW f l m):=by
 refine ⟨fun e=>?_,by rw [zipW_len];exact hl.len,fun x hx=>?_⟩
 ·have:=congrArg List.length e
  rw [zipW_len] at this
  exact hl.ne (List.length_eq_zero_iff.1 this)
 ·obtain ⟨i,hi,rfl⟩:=List.mem_map.1 hx
  rw [List.mem_range] at hi
  exact hf4 _ _ (hl.v _ (gu_mem hi)) (hm.v _ (gu_mem (by omega)))
theorem bitwise_ok (l m:List Int) (s t:Bool) (hl:l.length<2^14) (hm:m.length<2^14) (bl:Byt l) (bm:Byt m) (k:Nat) (fs cs:List SV) (f:Int→Int→Int) (hf4:∀ x y,V4 x→V4 y→V4 (f x y)) (hf:∀ x y,V4 x→V4 y→FvC CX TB (.fq k fs cs) [.i .u8 x,.i .u8 y] [] (RI .u8 (f x y))) :
  FvC CX TB (.f 99 [] []) [.a [.u l,.b s],.a [.u m,.b t],.fq k fs cs] [] (RV (zipW f (bX l s m t) (bY l s m t)) (bg l s m t)):=by
 have nX:=bX_nv (s:=s) (t:=t) bl bm
 have nY:=bY_nv (s:=s) (t:=t) bl bm
 have hXY:(bX l s m t).length=(bY l s m t).length:=by rw [bX_len,bY_len]
 refine fn_ok rfl rfl fun B D G hG q hq=>?_
 cbv
 refine call hG [] (balance_ok l m s t hl hm) ⟨rfl,rfl,rfl⟩ ?_
 rintro _ _ ⟨X,Y,g,h,rfl,rfl,hX,hY,hg,hh⟩
 cbv
 rw [←hX] at nX
 rw [←hY] at nY
 rw [←hX,←hY] at hXY
 have hlen:=nX.len
 refine lp hG (α:=Int×List Int) (fun p=>∃ n:Nat,p.1=(n:Int)∧n≤X.length∧p.2.length=X.length∧∀ i:Nat,i<X.length→gu p.2 i=if i<n then f (gu X i) (gu Y i) else gu X i) (fun p=>X.length-p.1.toNat) (fun s p=>(s.put (some 20) (.i .i64 p.1)).setO 3 (.u p.2)) (0,X) ⟨0,rfl,Nat.zero_le _,rfl,by simp⟩ (by constructor<;>cbv<;>simp) ?_
 rintro ⟨j,L⟩ ⟨n,hj,hn,hL,hi⟩
 have hL:L.length=X.length:=hL
 cbv
 have hj:j=(n:Int):=hj
 have hi:∀ i:Nat,i<X.length→gu L i=if i<n then f (gu X i) (gu Y i) else gu X i:=hi
 refine SX.ite hG (fun h3=>?_) (fun h3=>?_)
 ·have h3:n<X.length:=by
   rw [hG,hj] at h3
   have h3:(n:Int)<(Y.length:Int):=of_decide_eq_true h3
   omega
  have v1:G.ix j (G.lu Y):=by rw [hG,hj];show 0≤(n:Int)∧(n:Int)<(Y.length:Int);omega
  have v2:G.ix j (G.lu L):=by rw [hG,hj];show 0≤(n:Int)∧(n:Int)<(L.length:Int);omega
  refine ⟨v1,v1,v2,v2,?_⟩
  have e1:G.gu L j=gu X n:=by rw [hG,hj];show gu L n=_;rw [hi n h3,if_neg (by omega)]
  have e2:G.gu Y j=gu Y n:=by rw [hG,hj];rfl
  have m1:V4 (G.gu L j):=by rw [e1];exact nX.v _ (gu_mem h3)
  have m2:V4 (G.gu Y j):=by rw [e2];exact nY.v _ (gu_mem (by omega))
  refine callQ hG [] (hf _ _ m1 m2) ⟨rfl,rfl,rfl⟩ ?_
  rintro _ _ ⟨c,rfl,rfl,hc⟩
  cbv
  rw [e1,e2] at hc
  have hj:j=(n:Int):=hj
  have hnx:G.su L j c=L.set n (f (gu X n) (gu Y n)):=by rw [hc,hG,hj];rfl
  have hi2:∀ i:Nat,i<X.length→gu (G.su L j c) i=if i<n+1 then f (gu X i) (gu Y i) else gu X i:=fun i hlt=>by
   rw [hnx,gu_set (by omega)]
   split
   ·rename_i e;rw [e,if_pos (by omega)]
   ·rw [hi i hlt]
    by_cases h5:i<n
    ·rw [if_pos h5,if_pos (by omega)]
    ·rw [if_neg h5,if_neg (by omega)]
  refine ⟨v2,v2,okd hG rfl ?_⟩
  exact ⟨(G.ar .add .i64 j (Int.ofNat 1),G.su L j c),⟨n+1,inc hG hj (by omega),h3,by show (G.su _ _ _).length=_;rw [hnx];simp [hL],hi2⟩,mu hj (inc hG hj (by omega)) h3,by constructor<;>cbv<;>simp⟩
 ·have h3:X.length≤n:=by
   rw [hG,hj] at h3
   have h3:¬ (n:Int)<(Y.length:Int):=of_decide_eq_false h3
   omega
  refine hq _ _ ⟨_,_,rfl,rfl,?_,hg⟩
  rw [←hX,←hY]
  refine gu_ext (by rw [hL,zipW_len]) fun i hlt=>?_
  rw [hi i (by omega),if_pos (by omega),zipW_get (by omega)]
theorem RP.nv {l m:List Int} {s t:Bool} (bl:Byt l) (bm:Byt m):NV (bX l s m t)∧NV (bY l s m t)∧(bX l s m t).length=(bY l s m t).length:=⟨bX_nv bl bm,bY_nv bl bm,by rw [bX_len,bY_len]⟩
def bwF (f:Int→Int→Int) (l:List Int) (s:Bool) (m:List Int) (t:Bool):List Int:=zipW f (bX l s m t) (bY l s m t)
section
variable (l m:List Int) (s t:Bool) (hl:l.length<2^14) (hm:m.length<2^14) (bl:Byt l) (bm:Byt m)
include hl hm bl bm
theorem vOr_ok:FvC CX TB (.f 31 [] []) [.a [.u l,.b s],.a [.u m,.b t]] [] (RV (bwF bOr l s m t) (bg l s m t)):=by
 refine fn_ok rfl rfl fun B D G hG q hq=>?_
 cbv
 refine call hG [] (bitwise_ok l m s t hl hm bl bm 97 [] [] bOr bOr_44 (fun x y hx hy=>fq_ok (bOr_ok x y hx.1 hy.1))) ⟨rfl,rfl,rfl⟩ ?_
 rintro _ _ ⟨L,g,rfl,rfl,hL,hg⟩
 cbv
 exact hq _ _ ⟨_,_,rfl,rfl,hL,hg⟩
theorem vXnor_ok:FvC CX TB (.f 84 [] []) [.a [.u l,.b s],.a [.u m,.b t]] [] (RV (bwF bEq l s m t) (bg l s m t)):=by
 refine fn_ok rfl rfl fun B D G hG q hq=>?_
 cbv
 refine call hG [] (bitwise_ok l m s t hl hm bl bm 150 [] [] bEq bEq_44 (fun x y hx hy=>fq_ok (bEq_ok x y hx.1 hy.1))) ⟨rfl,rfl,rfl⟩ ?_
 rintro _ _ ⟨L,g,rfl,rfl,hL,hg⟩
 cbv
 exact hq _ _ ⟨_,_,rfl,rfl,hL,hg⟩
def eqB (l:List Int) (s:Bool) (m:List Int) (t:Bool):Int:=fld bAnd (bwF bEq l s m t)
end
theorem redAnd_ok (l:List Int) (s:Bool) (hl:l.length<2^15) (hb:Byt l):FvC CX TB (.f 40 [] []) [.a [.u l,.b s]] [] (RV1 (fld bAnd (nB l)) false):=by
 have nv:=nB_nv hb
 refine fn_ok rfl rfl fun B D G hG q hq=>?_
 cbv
 refine call hG [] (norm_ok l s hl) ⟨rfl,rfl,rfl⟩ ?_
 rintro _ _ ⟨L,t,rfl,rfl,hL,ht⟩
 cbv
 have nvL:NV L:=by rw [hL];exact nv
 refine call hG [] (fold_ok L t nvL.ne (by have:=nvL.len;omega) nvL.v 124 [] [] bAnd bAnd_44 (fun x y hx hy=>fq_ok (bAnd_ok x y hx.1 hy.1))) ⟨rfl,rfl,rfl⟩ ?_
 rintro _ _ ⟨c,rfl,rfl,hc⟩
 cbv
 refine call hG [] (single_ok c) ⟨rfl,rfl,rfl⟩ ?_
 rintro _ _ ⟨M,g,rfl,rfl,hM,hg⟩
 cbv
 exact hq _ _ ⟨_,_,rfl,rfl,by rw [hM,hc,hL],hg⟩
theorem redOr_ok (l:List Int) (s:Bool) (hl:l.length<2^15) (hb:Byt l):FvC CX TB (.f 41 [] []) [.a [.u l,.b s]] [] (RV1 (fld bOr (nB l)) false):=by
 have nv:=nB_nv hb
 refine fn_ok rfl rfl fun B D G hG q hq=>?_
 cbv
 refine call hG [] (norm_ok l s hl) ⟨rfl,rfl,rfl⟩ ?_
 rintro _ _ ⟨L,t,rfl,rfl,hL,ht⟩
 cbv
 have nvL:NV L:=by rw [hL];exact nv
 refine call hG [] (fold_ok L t nvL.ne (by have:=nvL.len;omega) nvL.v 97 [] [] bOr bOr_44 (fun x y hx hy=>fq_ok (bOr_ok x y hx.1 hy.1))) ⟨rfl,rfl,rfl⟩ ?_
 rintro _ _ ⟨c,rfl,rfl,hc⟩
 cbv
 refine call hG [] (single_ok c) ⟨rfl,rfl,rfl⟩ ?_
 rintro _ _ ⟨M,g,rfl,rfl,hM,hg⟩
 cbv
 exact hq _ _ ⟨_,_,rfl,rfl,by rw [hM,hc,hL],hg⟩
theorem redXor_ok (l:List Int) (s:Bool) (hl:l.length<2^15) (hb:Byt l):FvC CX TB (.f 42 [] []) [.a [.u l,.b s]] [] (RV1 (fld bXor (nB l)) false):=by
 have nv:=nB_nv hb
 refine fn_ok rfl rfl fun B D G hG q hq=>?_
 cbv
 refine call hG [] (norm_ok l s hl) ⟨rfl,rfl,rfl⟩ ?_
 rintro _ _ ⟨L,t,rfl,rfl,hL,ht⟩
 cbv
 have nvL:NV L:=by rw [hL];exact nv
 refine call hG [] (fold_ok L t nvL.ne (by have:=nvL.len;omega) nvL.v 125 [] [] bXor bXor_44 (fun x y hx hy=>fq_ok (bXor_ok x y hx.1 hy.1))) ⟨rfl,rfl,rfl⟩ ?_
 rintro _ _ ⟨c,rfl,rfl,hc⟩
 cbv
 refine call hG [] (single_ok c) ⟨rfl,rfl,rfl⟩ ?_
 rintro _ _ ⟨M,g,rfl,rfl,hM,hg⟩
 cbv
 exact hq _ _ ⟨_,_,rfl,rfl,by rw [hM,hc,hL],hg⟩
theorem fld_4 {f:Int→Int→Int} (hf4:∀ x y,V4 x→V4 y→V4 (f x y)) {l:List Int} (h:NV l):V4 (fld f l):=fold_4 hf4 (bBuf_4 (h.v _ (gu_mem (n:=0) (List.length_pos_iff.2 h.ne))).1) (fun y hy=>h.v y (List.mem_of_mem_drop hy))
theorem redNand_ok (l:List Int) (s:Bool) (hl:l.length<2^15) (hb:Byt l):FvC CX TB (.f 43 [] []) [.a [.u l,.b s]] [] (RV1 (bNot (fld bAnd (nB l))) false):=by
 have h4:=fld_4 bAnd_44 (nB_nv hb)
 refine fn_ok rfl rfl fun B D G hG q hq=>?_
 cbv
 refine call hG [] (redAnd_ok l s hl hb) ⟨rfl,rfl,rfl⟩ ?_
 rintro _ _ ⟨L,t,rfl,rfl,hL,ht⟩
 cbv
 rw [←hL] at h4
 refine call hG [] (vnot1_ok L t h4) ⟨rfl,rfl,rfl⟩ ?_
 rintro _ _ ⟨M,g,rfl,rfl,hM,hg⟩
 cbv
 exact hq _ _ ⟨_,_,rfl,rfl,by rw [hM,hL],by rw [hg,ht]⟩
theorem redNor_ok (l:List Int) (s:Bool) (hl:l.length<2^15) (hb:Byt l):FvC CX TB (.f 44 [] []) [.a [.u l,.b s]] [] (RV1 (bNot (fld bOr (nB l))) false):=by
 have h4:=fld_4 bOr_44 (nB_nv hb)
 refine fn_ok rfl rfl fun B D G hG q hq=>?_
 cbv
 refine call hG [] (redOr_ok l s hl hb) ⟨rfl,rfl,rfl⟩ ?_
 rintro _ _ ⟨L,t,rfl,rfl,hL,ht⟩
 cbv
 rw [←hL] at h4
 refine call hG [] (vnot1_ok L t h4) ⟨rfl,rfl,rfl⟩ ?_
 rintro _ _ ⟨M,g,rfl,rfl,hM,hg⟩
 cbv
 exact hq _ _ ⟨_,_,rfl,rfl,by rw [hM,hL],by rw [hg,ht]⟩
theorem redXnor_ok (l:List Int) (s:Bool) (hl:l.length<2^15) (hb:Byt l):FvC CX TB (.f 45 [] []) [.a [.u l,.b s]] [] (RV1 (bNot (fld bXor (nB l))) false):=by
 have h4:=fld_4 bXor_44 (nB_nv hb)
 refine fn_ok rfl rfl fun B D G hG q hq=>?_
 cbv
 refine call hG [] (redXor_ok l s hl hb) ⟨rfl,rfl,rfl⟩ ?_
 rintro _ _ ⟨L,t,rfl,rfl,hL,ht⟩
 cbv
 rw [←hL] at h4
 refine call hG [] (vnot1_ok L t h4) ⟨rfl,rfl,rfl⟩ ?_
 rintro _ _ ⟨M,g,rfl,rfl,hM,hg⟩
 cbv
 exact hq _ _ ⟨_,_,rfl,rfl,by rw [hM,hL],by rw [hg,ht]⟩
end Go.Proofs.YtdgbdkfoeaollaaGreatDoor.V
end
section
set_option linter.unusedSimpArgs false
set_option linter.unusedVariables false
set_option linter.unusedSectionVars false
namespace Go.Proofs.YtdgbdkfoeaollaaGreatDoor.V
open Go Go.AL Go.SX
theorem byt_nv {l:List Int} (h:NV l):Byt l:=fun x hx=>(h.v x hx).1
theorem bX_id {X Y:List Int} {g:Bool} (hX:NV X) (hY:NV Y) (h:X.length=Y.length):bX X g Y g=X∧bY X g Y g=Y∧bg X g Y g=g:=by
 have hg:bg X g Y g=g:=by unfold bg;rw [nS_id hX,nS_id hY];cases g<;>rfl
 have hw:bwd X Y=X.length:=by unfold bwd;rw [nB_id hX,nB_id hY];show max _ _=_;omega
 refine ⟨?_,?_,hg⟩
 ·unfold bX rsz;rw [nB_id hX,hw,if_pos (Nat.le_refl _),List.take_length]
 ·unfold bY rsz;rw [nB_id hY,hw,if_pos (by omega),h,List.take_length]
section
variable (l m:List Int) (s t:Bool) (hl:l.length<2^14) (hm:m.length<2^14) (bl:Byt l) (bm:Byt m)
include hl hm bl bm
theorem veq_ok:FvC CX TB (.f 85 [] []) [.a [.u l,.b s],.a [.u m,.b t]] [] (RV1 (eqB l s m t) false):=by
 have nv:NV (bwF bEq l s m t):=zipW_nv (bX_nv bl bm) (bY_nv bl bm) (by rw [bX_len,bY_len]) bEq_44
 refine fn_ok rfl rfl fun B D G hG q hq=>?_
 cbv
 refine call hG [] (vXnor_ok l m s t hl hm bl bm) ⟨rfl,rfl,rfl⟩ ?_
 rintro _ _ ⟨L,g,rfl,rfl,hL,hg⟩
 cbv
 rw [←hL] at nv
 refine call hG [] (redAnd_ok L g (by have:=nv.len;omega) (byt_nv nv)) ⟨rfl,rfl,rfl⟩ ?_
 rintro _ _ ⟨M,h,rfl,rfl,hM,hh⟩
 cbv
 exact hq _ _ ⟨_,_,rfl,rfl,by rw [hM,nB_id nv,hL];rfl,hh⟩
theorem eqB_4:V4 (eqB l s m t):=fld_4 bAnd_44 (zipW_nv (bX_nv bl bm) (bY_nv bl bm) (by rw [bX_len,bY_len]) bEq_44)
theorem vne_ok:FvC CX TB (.f 54 [] []) [.a [.u l,.b s],.a [.u m,.b t]] [] (RV1 (bNot (eqB l s m t)) false):=by
 have h4:=eqB_4 l m s t hl hm bl bm
 refine fn_ok rfl rfl fun B D G hG q hq=>?_
 cbv
 refine call hG [] (veq_ok l m s t hl hm bl bm) ⟨rfl,rfl,rfl⟩ ?_
 rintro _ _ ⟨L,g,rfl,rfl,hL,hg⟩
 cbv
 rw [←hL] at h4
 refine call hG [] (vnot1_ok L g h4) ⟨rfl,rfl,rfl⟩ ?_
 rintro _ _ ⟨M,h,rfl,rfl,hM,hh⟩
 cbv
 exact hq _ _ ⟨_,_,rfl,rfl,by rw [hM,hL],by rw [hh,hg]⟩
theorem vcaseEq_ok:FvC CX TB (.f 55 [] []) [.a [.u l,.b s],.a [.u m,.b t]] [] (RV1 (ofB (bX l s m t == bY l s m t)) false):=by
 refine fn_ok rfl rfl fun B D G hG q hq=>?_
 cbv
 refine call hG [] (balance_ok l m s t hl hm) ⟨rfl,rfl,rfl⟩ ?_
 rintro _ _ ⟨X,Y,g,h,rfl,rfl,hX,hY,hg,hh⟩
 cbv
 refine call hG [] (equal_ok X Y (by rw [hX];have:=(bX_nv (s:=s) (t:=t) bl bm).len;omega)) ⟨rfl,rfl,rfl⟩ ?_
 rintro _ _ ⟨c,rfl,rfl,hc⟩
 cbv
 refine call hG [] (ofB_ok c) ⟨rfl,rfl,rfl⟩ ?_
 rintro _ _ ⟨d,rfl,rfl,hd⟩
 cbv
 refine call hG [] (single_ok d) ⟨rfl,rfl,rfl⟩ ?_
 rintro _ _ ⟨M,k,rfl,rfl,hM,hk⟩
 cbv
 exact hq _ _ ⟨_,_,rfl,rfl,by rw [hM,hd,hc,hX,hY],hk⟩
theorem vcaseNe_ok:FvC CX TB (.f 56 [] []) [.a [.u l,.b s],.a [.u m,.b t]] [] (RV1 (bNot (ofB (bX l s m t == bY l s m t))) false):=by
 refine fn_ok rfl rfl fun B D G hG q hq=>?_
 cbv
 refine call hG [] (vcaseEq_ok l m s t hl hm bl bm) ⟨rfl,rfl,rfl⟩ ?_
 rintro _ _ ⟨L,g,rfl,rfl,hL,hg⟩
 cbv
 refine call hG [] (vnot1_ok L g (by rw [hL];exact ofB_4 _)) ⟨rfl,rfl,rfl⟩ ?_
 rintro _ _ ⟨M,h,rfl,rfl,hM,hh⟩
 cbv
 exact hq _ _ ⟨_,_,rfl,rfl,by rw [hM,hL],by rw [hh,hg]⟩
def mtc (fr:Int→Bool) (p q:Int):Bool:=p == q||fr p||fr q
omit hl hm bl bm in
theorem match1_ok (k:Nat) (fs cs:List SV) (fr:Int→Bool) (x y:Int) (hx:FvC CX TB (.fq k fs cs) [.i .u8 x] [] (RB (fr x))) (hy:FvC CX TB (.fq k fs cs) [.i .u8 y] [] (RB (fr y))):FvC CX TB (.f 175 [] [.p [.fq k fs cs]]) [.i .u8 x,.i .u8 y] [] (RB (mtc fr x y)):=by
 refine fn_ok rfl rfl fun B D G hG q hq=>?_
 cbv
 refine SX.ite hG (fun h1=>?_) (fun h1=>?_)
 ·have h1:(x == y)=true:=by rw [hG] at h1;exact h1
  exact hq _ _ ⟨_,rfl,rfl,by rw [mtc,h1];rfl⟩
 have h1:(x == y)=false:=by rw [hG] at h1;exact h1
 refine callQ hG [] (hx) ⟨rfl,rfl,rfl⟩ ?_
 rintro _ _ ⟨c,rfl,rfl,hc⟩
 cbv
 refine SX.ite hG (fun h2=>?_) (fun h2=>?_)
 ·exact hq _ _ ⟨_,rfl,rfl,by rw [mtc,h1,←hc,h2];rfl⟩
 refine callQ hG [] (hy) ⟨rfl,rfl,rfl⟩ ?_
 rintro _ _ ⟨d,rfl,rfl,hd⟩
 cbv
 exact hq _ _ ⟨_,rfl,rfl,by rw [mtc,h1,←hc,h2,hd];rfl⟩
theorem vmatch_ok (k:Nat) (fs cs:List SV) (fr:Int→Bool) (hf:∀ x,FvC CX TB (.fq k fs cs) [.i .u8 x] [] (RB (fr x))):FvC CX TB (.f 134 [] []) [.a [.u l,.b s],.a [.u m,.b t],.fq k fs cs] [] (RB (eqF (mtc fr) (bX l s m t) (bY l s m t))):=by
 refine fn_ok rfl rfl fun B D G hG q hq=>?_
 cbv
 refine call hG [] (balance_ok l m s t hl hm) ⟨rfl,rfl,rfl⟩ ?_
 rintro _ _ ⟨X,Y,g,h,rfl,rfl,hX,hY,hg,hh⟩
 cbv
 refine call hG [] (eqFunc_ok X Y (by rw [hX];have:=(bX_nv (s:=s) (t:=t) bl bm).len;omega) 175 [] [.p [.fq k fs cs]] (mtc fr) (fun x y _ _=>fq_ok (match1_ok k fs cs fr x y (hf x) (hf y)))) ⟨rfl,rfl,rfl⟩ ?_
 rintro _ _ ⟨c,rfl,rfl,hc⟩
 cbv
 exact hq _ _ ⟨_,rfl,rfl,by rw [hc,hX,hY]⟩
omit hl hm bl bm in
theorem matchZ1_ok (x:Int):FvC CX TB (.f 135 [] []) [.i .u8 x] [] (RB (x == 3)):=by
 refine fn_ok rfl rfl fun B D G hG q hq=>?_
 cbv
 exact hq _ _ ⟨_,rfl,rfl,by rw [hG];rfl⟩
omit hl hm bl bm in
theorem matchX1_ok (x:Int):FvC CX TB (.f 136 [] []) [.i .u8 x] [] (RB (!bKn x)):=by
 refine fn_ok rfl rfl fun B D G hG q hq=>?_
 cbv
 refine call hG [] (known_ok x) ⟨rfl,rfl,rfl⟩ ?_
 rintro _ _ ⟨c,rfl,rfl,hc⟩
 cbv
 exact hq _ _ ⟨_,rfl,rfl,by rw [hG,hc];rfl⟩
def mZ (l:List Int) (s:Bool) (m:List Int) (t:Bool):Bool:=eqF (mtc fun x=>x == 3) (bX l s m t) (bY l s m t)
def mX (l:List Int) (s:Bool) (m:List Int) (t:Bool):Bool:=eqF (mtc fun x=>!bKn x) (bX l s m t) (bY l s m t)
theorem vmatchZ_ok:FvC CX TB (.f 60 [] []) [.a [.u l,.b s],.a [.u m,.b t]] [] (RB (mZ l s m t)):=by
 refine fn_ok rfl rfl fun B D G hG q hq=>?_
 cbv
 refine call hG [] (vmatch_ok l m s t hl hm bl bm 135 [] [] (fun x=>x == 3) (fun x=>fq_ok (matchZ1_ok x))) ⟨rfl,rfl,rfl⟩ ?_
 rintro _ _ ⟨c,rfl,rfl,hc⟩
 cbv
 exact hq _ _ ⟨_,rfl,rfl,hc⟩
theorem vmatchX_ok:FvC CX TB (.f 61 [] []) [.a [.u l,.b s],.a [.u m,.b t]] [] (RB (mX l s m t)):=by
 refine fn_ok rfl rfl fun B D G hG q hq=>?_
 cbv
 refine call hG [] (vmatch_ok l m s t hl hm bl bm 136 [] [] (fun x=>!bKn x) (fun x=>fq_ok (matchX1_ok x))) ⟨rfl,rfl,rfl⟩ ?_
 rintro _ _ ⟨c,rfl,rfl,hc⟩
 cbv
 exact hq _ _ ⟨_,rfl,rfl,hc⟩
omit hl hm bl bm in
theorem cond1_ok (x y:Int) (hx:V4 x) (hy:V4 y):FvC CX TB (.f 100 [] []) [.i .u8 x,.i .u8 y] [] (RI .u8 (bMux 2 x y)):=by
 refine fn_ok rfl rfl fun B D G hG q hq=>?_
 cbv
 refine call hG [] (bMux_ok (.ofNat 2) x y hx.1 hy.1) ⟨rfl,rfl,rfl⟩ ?_
 rintro _ _ ⟨c,rfl,rfl,hc⟩
 cbv
 exact hq _ _ ⟨_,rfl,rfl,hc⟩
omit hl hm bl bm in
theorem bMux_44 (x y:Int) (hx:V4 x) (hy:V4 y):V4 (bMux 2 x y):=by
 rcases hx.cases with rfl | rfl | rfl | rfl<;>rcases hy.cases with rfl | rfl | rfl | rfl<;>constructor<;>decide
def condL (e l:List Int) (s:Bool) (m:List Int) (t:Bool):List Int:=
 if fld bOr (nB e)=1 then bX l s m t else if fld bOr (nB e)=0 then bY l s m t else zipW (bMux 2) (bX l s m t) (bY l s m t)
theorem vcond_ok (e:List Int) (r:Bool) (he:e.length<2^14) (be:Byt e):FvC CX TB (.f 18 [] []) [.a [.u e,.b r],.a [.u l,.b s],.a [.u m,.b t]] [] (RV (condL e l s m t) (bg l s m t)):=by
 have nX:=bX_nv (s:=s) (t:=t) bl bm
 have nY:=bY_nv (s:=s) (t:=t) bl bm
 have hXY:(bX l s m t).length=(bY l s m t).length:=by rw [bX_len,bY_len]
 refine fn_ok rfl rfl fun B D G hG q hq=>?_
 cbv
 refine call hG [] (balance_ok l m s t hl hm) ⟨rfl,rfl,rfl⟩ ?_
 rintro _ _ ⟨X,Y,g,h,rfl,rfl,hX,hY,hg,hh⟩
 cbv
 rw [←hX] at nX
 rw [←hY] at nY
 rw [←hX,←hY] at hXY
 refine call hG [] (truth_ok e r (by omega) be) ⟨rfl,rfl,rfl⟩ ?_
 rintro _ _ ⟨c,rfl,rfl,hc⟩
 cbv
 refine SX.ite hG (fun h1=>?_) (fun h1=>?_)
 ·have h1:c=1:=by rw [hG] at h1;exact eq_of_beq h1
  exact hq _ _ ⟨_,_,rfl,rfl,by rw [condL,if_pos (by rw [←hc];exact h1),hX],hg⟩
 have h1:¬ c=1:=by rw [hG] at h1;exact ne_of_beq_false h1
 refine SX.ite hG (fun h2=>?_) (fun h2=>?_)
 ·have h2:c=0:=by rw [hG] at h2;exact eq_of_beq h2
  exact hq _ _ ⟨_,_,rfl,rfl,by rw [condL,if_neg (by rw [←hc];exact h1),if_pos (by rw [←hc];exact h2),hY],hh⟩
 have h2:¬ c=0:=by rw [hG] at h2;exact ne_of_beq_false h2
 have hgh:h=g:=by rw [hg,hh]
 subst hgh
 obtain ⟨i1,i2,i3⟩:=bX_id (g:=h) nX nY hXY
 refine call hG [] (bitwise_ok X Y h h (by have:=nX.len;omega) (by have:=nY.len;omega) (byt_nv nX) (byt_nv nY) 100 [] [] (bMux 2) bMux_44 (fun x y hx hy=>fq_ok (cond1_ok x y hx hy))) ⟨rfl,rfl,rfl⟩ ?_
 rintro _ _ ⟨L,k,rfl,rfl,hL,hk⟩
 cbv
 exact hq _ _ ⟨_,_,rfl,rfl,by rw [condL,if_neg (by rw [←hc];exact h1),if_neg (by rw [←hc];exact h2),hL,i1,i2,hX,hY],by rw [hk,i3,hg]⟩
end
theorem lnot_ok (l:List Int) (s:Bool) (hl:l.length<2^15) (hb:Byt l):FvC CX TB (.f 46 [] []) [.a [.u l,.b s]] [] (RV1 (bNot (fld bOr (nB l))) false):=by
 have h4:=fld_4 bOr_44 (nB_nv hb)
 refine fn_ok rfl rfl fun B D G hG q hq=>?_
 cbv
 refine call hG [] (truth_ok l s hl hb) ⟨rfl,rfl,rfl⟩ ?_
 rintro _ _ ⟨c,rfl,rfl,hc⟩
 cbv
 refine call hG [] (bNot_ok c (by rw [hc];exact h4.1)) ⟨rfl,rfl,rfl⟩ ?_
 rintro _ _ ⟨d,rfl,rfl,hd⟩
 cbv
 refine call hG [] (single_ok d) ⟨rfl,rfl,rfl⟩ ?_
 rintro _ _ ⟨M,k,rfl,rfl,hM,hk⟩
 cbv
 exact hq _ _ ⟨_,_,rfl,rfl,by rw [hM,hd,hc],hk⟩
theorem land_ok (l m:List Int) (s t:Bool) (hl:l.length<2^15) (hm:m.length<2^15) (bl:Byt l) (bm:Byt m):FvC CX TB (.f 47 [] []) [.a [.u l,.b s],.a [.u m,.b t]] [] (RV1 (bAnd (fld bOr (nB l)) (fld bOr (nB m))) false):=by
 have h4:=fld_4 bOr_44 (nB_nv bl)
 have h5:=fld_4 bOr_44 (nB_nv bm)
 refine fn_ok rfl rfl fun B D G hG q hq=>?_
 cbv
 refine call hG [] (truth_ok l s hl bl) ⟨rfl,rfl,rfl⟩ ?_
 rintro _ _ ⟨c,rfl,rfl,hc⟩
 cbv
 refine call hG [] (truth_ok m t hm bm) ⟨rfl,rfl,rfl⟩ ?_
 rintro _ _ ⟨d,rfl,rfl,hd⟩
 cbv
 refine call hG [] (bAnd_ok c d (by rw [hc];exact h4.1) (by rw [hd];exact h5.1)) ⟨rfl,rfl,rfl⟩ ?_
 rintro _ _ ⟨e,rfl,rfl,he⟩
 cbv
 refine call hG [] (single_ok e) ⟨rfl,rfl,rfl⟩ ?_
 rintro _ _ ⟨M,k,rfl,rfl,hM,hk⟩
 cbv
 refine okd hG rfl (hq _ _ ⟨_,_,rfl,rfl,by rw [hM,he,hd,hc],hk⟩)
theorem lor_ok (l m:List Int) (s t:Bool) (hl:l.length<2^15) (hm:m.length<2^15) (bl:Byt l) (bm:Byt m):FvC CX TB (.f 48 [] []) [.a [.u l,.b s],.a [.u m,.b t]] [] (RV1 (bOr (fld bOr (nB l)) (fld bOr (nB m))) false):=by
 have h4:=fld_4 bOr_44 (nB_nv bl)
 have h5:=fld_4 bOr_44 (nB_nv bm)
 refine fn_ok rfl rfl fun B D G hG q hq=>?_
 cbv
 refine call hG [] (truth_ok l s hl bl) ⟨rfl,rfl,rfl⟩ ?_
 rintro _ _ ⟨c,rfl,rfl,hc⟩
 cbv
 refine call hG [] (truth_ok m t hm bm) ⟨rfl,rfl,rfl⟩ ?_
 rintro _ _ ⟨d,rfl,rfl,hd⟩
 cbv
 refine call hG [] (bOr_ok c d (by rw [hc];exact h4.1) (by rw [hd];exact h5.1)) ⟨rfl,rfl,rfl⟩ ?_
 rintro _ _ ⟨e,rfl,rfl,he⟩
 cbv
 refine call hG [] (single_ok e) ⟨rfl,rfl,rfl⟩ ?_
 rintro _ _ ⟨M,k,rfl,rfl,hM,hk⟩
 cbv
 refine okd hG rfl (hq _ _ ⟨_,_,rfl,rfl,by rw [hM,he,hd,hc],hk⟩)
end Go.Proofs.YtdgbdkfoeaollaaGreatDoor.V
end
section
set_option linter.unusedSimpArgs false
set_option linter.unusedVariables false
namespace Go.Proofs.YtdgbdkfoeaollaaGreatDoor.V
open Go Go.AL Go.SX
end Go.Proofs.YtdgbdkfoeaollaaGreatDoor.V
end
section
set_option linter.unusedSimpArgs false
set_option linter.unusedVariables false
namespace Go.Proofs.YtdgbdkfoeaollaaGreatDoor.V
open Go Go.AL Go.SX
theorem kbr {k:Nat} {args:List SV} {ao:List SX.Obj} {p c:Bool} (h:FvC CX TB (.f k [] []) args ao (RB p)) (e:p=c):FvC CX TB (.f k [] []) args ao (fun r ro=>r=.kb c∧ro=[]):=by
 intro H m vf vs h1 h2 h3 h4
 obtain ⟨k',fs,cs,e',hr⟩:=h H m vf vs h1 h2 h3 h4
 refine ⟨k',fs,cs,e',hr.mono ?_⟩
 rintro v H' ⟨m',r,ro,⟨x,rfl,rfl,hx⟩,q1,q2,q3,q4,q5⟩
 exact ⟨m',.kb c,[],⟨rfl,rfl⟩,q1,q2,by rw [hx,e] at q3;exact q3,q4,q5⟩
def dropC:Nat→IC→IC
 | n+1,.seq _ b=>dropC n b
 | _,c=>c
theorem rsame_ok (l m:List Int) (s t:Bool) (hl:l.length<2^20) (hm:m.length<2^20):FvC CX TB (.f 58 [] []) [.a [.u l,.b s],.a [.u m,.b t]] [] (RB (s == t&&l == m)):=by
 refine fn_ok rfl rfl fun B D G hG q hq=>?_
 cbv
 refine SX.ite hG (fun h1=>?_) (fun h1=>?_)
 ·have h1:decide (s≠t)=true:=by rw [hG] at h1;simpa [std,beqS] using h1
  exact hq _ _ ⟨_,rfl,rfl,by have:=of_decide_eq_true h1;symm;simp [this]⟩
 have h1:s=t:=by rw [hG] at h1;simpa [std,beqS] using h1
 refine SX.ite hG (fun h2=>?_) (fun h2=>?_)
 ·have h2:l.length≠m.length:=by have hq_:=h2;simp [hG,std,cmpS,arS,beqS] at hq_;omega
  exact hq _ _ ⟨_,rfl,rfl,by symm;simp;intro _ e;exact h2 (by rw [e])⟩
 have h2:l.length=m.length:=by have hq_:=h2;simp [hG,std,cmpS,arS,beqS] at hq_;omega
 refine lp hG (α:=Int) (fun j=>∃ n:Nat,j=(n:Int)∧n≤l.length∧∀ i:Nat,i<n→gu l i=gu m i) (fun j=>l.length-j.toNat) (fun s j=>s.put (some 5) (.i .i64 j)) 0 ⟨0,rfl,Nat.zero_le _,by simp⟩ (by constructor<;>cbv<;>simp) ?_
 rintro j ⟨n,hj,hn,hi⟩
 cbv
 refine SX.ite hG (fun h3=>?_) (fun h3=>?_)
 ·have h3:n<l.length:=by simpa [hG,std,cmpS,arS,beqS,hj] using h3
  refine ⟨by simp [hG,std,hj,h3],by simp [hG,std,hj];omega,okd hG rfl ?_⟩
  have hgu:G.gu l j=gu l n∧G.gu m j=gu m n:=by rw [hG,hj];exact ⟨rfl,rfl⟩
  refine SX.ite hG (fun h4=>?_) (fun h4=>?_)
  ·have h4:¬ G.gu l j=G.gu m j:=by simpa [hG,std,cmpS,arS,beqS] using h4
   rw [hgu.1,hgu.2] at h4
   exact hq _ _ ⟨_,rfl,rfl,by symm;simp;intro _ e;exact h4 (by rw [e])⟩
  ·have h4:G.gu l j=G.gu m j:=by simpa [hG,std,cmpS,arS,beqS] using h4
   rw [hgu.1,hgu.2] at h4
   exact ⟨G.ar .add .i64 j (Int.ofNat 1),⟨n+1,inc hG hj (by omega),h3,fun i hlt=>by rcases Nat.lt_succ_iff_lt_or_eq.1 hlt with h | rfl;exact hi i h;exact h4⟩,mu hj (inc hG hj (by omega)) h3,by constructor<;>cbv<;>simp⟩
 ·have h3:l.length≤n:=by simpa [hG,std,cmpS,arS,beqS,hj] using h3
  refine hq _ _ ⟨_,rfl,rfl,?_⟩
  symm
  simp only [Bool.and_eq_true,beq_iff_eq]
  exact ⟨h1,gu_ext h2 fun i hlt=>hi i (by omega)⟩
def chI (x:Int):Int:=if x=49 then 1 else if x=120 then 2 else if x=122 then 3 else 0
def ofL (b:ByteArray):List Int:=(List.range b.size).map fun i=>chI (sgS b ((b.size:Int)-1-(i:Nat)))
theorem of_ok (b:ByteArray) (hb:b.size<2^20):FvC CX TB (.f 23 [] []) [.v (.string b)] [] (RV (ofL b) false):=by
 refine fn_ok rfl rfl fun B D G hG q hq=>?_
 cbv
 refine lp_regB hG 1 0 (.u []) rfl rfl ?_
 have e0:G.ar .sub .i64 (G.sl b) 1=(b.size:Int)-1-(0:Nat):=by subst hG;show fwrap .i64 _=_;rw [fwi (by show _≤(b.size:Int)-1∧(b.size:Int)-1<_;omega)];simp [std]
 refine lp hG (α:=Int×List Int) (fun p=>∃ n:Nat,p.1=(b.size:Int)-1-(n:Nat)∧n≤b.size∧p.2=(List.range n).map fun i=>chI (sgS b ((b.size:Int)-1-(i:Nat)))) (fun p=>(p.1+1).toNat) (fun s p=>(s.put (some 4) (.i .i64 p.1)).setO 2 (.u p.2)) (G.ar .sub .i64 (G.sl b) 1,[]) ⟨0,e0,Nat.zero_le _,rfl⟩ (by constructor<;>cbv<;>simp) ?_
 rintro ⟨j,L⟩ ⟨n,hj,hn,hL⟩
 have hlen:L.length=n:=by show L.length=n;rw [show L=_ from hL];simp
 cbv
 have hj:j=(b.size:Int)-1-(n:Int):=hj
 have hL:L=(List.range n).map fun i=>chI (sgS b ((b.size:Int)-1-(i:Nat))):=hL
 have es:G.sg b j=sgS b ((b.size:Int)-1-(n:Int)):=by rw [hj];subst hG;rfl
 have hap:∀ x:Int,G.ap (G.lu L) (G.lu [x]):=fun x=>by subst hG;simp only [std];simp;omega
 refine SX.ite hG (fun h3=>?_) (fun h3=>?_)
 ·have h3:n<b.size:=by
   have:decide (j≥0)=true:=by rw [←h3];subst hG;rfl
   have:=of_decide_eq_true this
   omega
  have e1:G.ar .sub .i64 j (Int.ofNat 1)=(b.size:Int)-1-((n+1:Nat):Int):=by
   rw [hj];subst hG;show fwrap .i64 _=_
   rw [fwi (by show _≤(b.size:Int)-1-(n:Int)-1∧(b.size:Int)-1-(n:Int)-1<_;omega)]
   show (b.size:Int)-1-(n:Int)-1=_
   omega
  have hx:∀ x:Int,chI (G.sg b j)=x→G.apu L [x]=(List.range (n+1)).map fun i=>chI (sgS b ((b.size:Int)-1-(i:Nat))):=fun x hx=>by
   rw [List.range_succ,List.map_append,←hL,List.map_cons,List.map_nil,←es,hx];subst hG;rfl
  have hmu:(G.ar .sub .i64 j (Int.ofNat 1)+1).toNat<(j+1).toNat:=by rw [e1,hj];omega
  have hix:G.ix j (G.sl b):=by rw [hj];subst hG;show 0≤(b.size:Int)-1-(n:Int)∧(b.size:Int)-1-(n:Int)<(b.size:Int);omega
  have hdec:∀ (x y:Bool) (k:Int),G.cmp .eql (G.sg b j) k=x→decide (G.sg b j=k)=x:=fun x y k h=>by rw [←h];subst hG;rfl
  refine ⟨hix,?_⟩
  refine SX.ite hG (fun h4=>?_) (fun h4=>?_)
  ·have h4:=of_decide_eq_true (hdec _ true _ h4)
   refine ⟨hap _,?_⟩
   exact ⟨(G.ar .sub .i64 j (Int.ofNat 1),G.apu L [Int.ofNat 1]),⟨n+1,e1,h3,hx _ (by rw [h4];rfl)⟩,hmu,by constructor<;>cbv<;>simp⟩
  have h4:=of_decide_eq_false (hdec _ true _ h4)
  refine SX.ite hG (fun h5=>?_) (fun h5=>?_)
  ·have h5:=of_decide_eq_true (hdec _ true _ h5)
   refine ⟨hap _,?_⟩
   exact ⟨(G.ar .sub .i64 j (Int.ofNat 1),G.apu L [Int.ofNat 2]),⟨n+1,e1,h3,hx _ (by rw [h5];rfl)⟩,hmu,by constructor<;>cbv<;>simp⟩
  have h5:=of_decide_eq_false (hdec _ true _ h5)
  refine SX.ite hG (fun h6=>?_) (fun h6=>?_)
  ·have h6:=of_decide_eq_true (hdec _ true _ h6)
   refine ⟨hap _,?_⟩
   exact ⟨(G.ar .sub .i64 j (Int.ofNat 1),G.apu L [Int.ofNat 3]),⟨n+1,e1,h3,hx _ (by rw [h6];rfl)⟩,hmu,by constructor<;>cbv<;>simp⟩
  have h6:=of_decide_eq_false (hdec _ true _ h6)
  refine ⟨hap _,?_⟩
  exact ⟨(G.ar .sub .i64 j (Int.ofNat 1),G.apu L [Int.ofNat 0]),⟨n+1,e1,h3,hx _ (by unfold chI;rw [if_neg (show ¬ G.sg b j=49 from h4),if_neg (show ¬ G.sg b j=120 from h5),if_neg (show ¬ G.sg b j=122 from h6)];rfl)⟩,hmu,by constructor<;>cbv<;>simp⟩
 ·have h3:n=b.size:=by
   have:decide (j≥0)=false:=by rw [←h3];subst hG;rfl
   have:=of_decide_eq_false this
   omega
  exact hq _ _ ⟨_,_,rfl,rfl,by rw [hL,h3];rfl,rfl⟩
end Go.Proofs.YtdgbdkfoeaollaaGreatDoor.V
end
section
set_option linter.unusedSimpArgs false
set_option linter.unusedVariables false
namespace Go.Proofs.YtdgbdkfoeaollaaGreatDoor.V
open Go Go.AL Go.SX
end Go.Proofs.YtdgbdkfoeaollaaGreatDoor.V
end
section
set_option linter.unusedSimpArgs false
set_option linter.unusedVariables false
namespace Go.Proofs.YtdgbdkfoeaollaaGreatDoor.V
open Go Go.AL Go.SX
end Go.Proofs.YtdgbdkfoeaollaaGreatDoor.V
end
section
set_option linter.unusedSimpArgs false
set_option linter.unusedVariables false
namespace Go.Proofs.YtdgbdkfoeaollaaGreatDoor.V
open Go Go.AL Go.SX
theorem ext0V:X.Ext0 extV:=by
 rintro f ⟨h1,h2⟩
 unfold extV
 rw [if_neg h1,if_neg h2]
theorem rdS_isB {A:Nat→Prop} {H:AH} {v:Value} {l:List Bool} (h:RdS A H v (boolV l)):IsB H v l:=by
 obtain ⟨a,cap,rfl,h2,h3⟩:=h
 have e:(boolV l).length=l.length:=by simp [boolV]
 refine ⟨a,cap,by rw [e],by rw [e] at h2;exact h2,fun hne=>?_⟩
 obtain ⟨ad,rfl,bk,g1,-,g3,g4⟩:=h3 (by simpa [boolV] using hne)
 exact ⟨ad,bk,rfl,g1,g3,fun i b hb=>g4 i _ (by simp [boolV,hb])⟩
theorem isR_rdS {H H':AH} {v:Value} {l:List Bool} (h:IsR H H' v l):RdS (fun id=>Own [] [] id∨id<H.n) H' v (boolV l):=by
 have e:(boolV l).length=l.length:=by simp [boolV]
 rcases h with ⟨rfl,rfl⟩ | ⟨id,off,cap,bk,rfl,hc,h1,h2,h3,h4,h5,h6,h7⟩
 ·exact ⟨none,0,rfl,.inr (Nat.le_refl _),fun h=>absurd rfl h⟩
 ·refine ⟨_,cap,by rw [e],by rw [e];exact hc,fun _=>⟨_,rfl,bk,h2,?_,h3,fun i v hv=>?_⟩⟩
  ·rintro (⟨i,o,w,k1,_⟩ | k)
   ·simp at k1
   ·exact absurd h1 (Nat.not_le.2 k)
  ·simp only [boolV,List.getElem?_map,Option.map_eq_some_iff] at hv
   obtain ⟨b,hb,rfl⟩:=hv
   exact h6 i b hb
theorem frm_ext {H H':AH} (h:AL.Ext H H'):Frm (Own [] []) H H':=⟨h.n,fun id hid _=>h.get id hid,fun x h1 h2 _=>Nat.le_trans (Nat.le_min.2 ⟨h1,h2⟩) h.wl⟩
theorem obs_nil (H:AH):Obs [] [] H:=⟨rfl,fun i o v h=>by simp at h,fun i j o o' v v' id h=>by simp at h⟩
def Cm (H:AH) (Q:SV→List SX.Obj→Prop) (v:Value) (H':AH):Prop:=AL.Ext H H'∧∃ r,Q r []∧Den (fun id=>Own [] [] id∨id<H.n) [] H' r v
theorem br_any {k:Nat} {args:List SV} {Q:SV→List SX.Obj→Prop} (h:∀ H vs,DenL (Own [] []) [] H args vs→Run CX k vs H (Cm H Q)):FvC CX TB (.f k [] []) args [] Q:=by
 intro H m vf vs ho hgl hdf hda
 obtain rfl:m=[]:=List.length_eq_zero_iff.1 ho.len
 simp only [Den,DenL] at hdf
 obtain ⟨vf',vc,rfl,rfl,rfl⟩:=hdf
 refine ⟨k,[],[],rfl,?_⟩
 have e2:([]:List Value)++(vs++[])=vs:=by simp
 rw [e2]
 refine (h H vs hda).mono fun v H' ⟨h1,r,h2,h3⟩=>⟨[],r,[],h2,obs_nil _,rfl,h3,fun id ⟨i,o,w,k1,_⟩=>by simp at k1,frm_ext h1⟩
theorem br1 {k:Nat} {l:List Bool} {Q:SV→List SX.Obj→Prop} (h:∀ H v,IsB H v l→Run CX k [v] H (Cm H Q)):FvC CX TB (.f k [] []) [.bl l] [] Q:=
 br_any fun H vs hd=>by
  obtain ⟨w,ws,rfl,h1,rfl⟩:=hd
  exact h H w (rdS_isB h1)
theorem br2 {k:Nat} {l m:List Bool} {Q:SV→List SX.Obj→Prop} (h:∀ H v w,IsB H v l→IsB H w m→Run CX k [v,w] H (Cm H Q)):FvC CX TB (.f k [] []) [.bl l,.bl m] [] Q:=
 br_any fun H vs hd=>by
  obtain ⟨w,ws,rfl,h1,w',ws',rfl,h2,rfl⟩:=hd
  exact h H w w' (rdS_isB h1) (rdS_isB h2)
theorem bUint_ok (l:List Bool) (hl:l.length<2^20):FvC CX TB (.f 133 [] []) [.bl l] [] (fun r ro=>∃ a b,r=.t [.i .u64 a,.b b]∧ro=[]∧a=(if X.val l<2^64 then ((X.val l:Nat):Int) else 0)∧b=decide (X.val l<2^64)):=
 br1 fun H v hv=>(X.bUint_any ext0V hv (by omega)).mono fun r H' ⟨h1,h2⟩=>by
  subst h2
  refine ⟨h1,?_⟩
  unfold X.uintV
  split
  ·rename_i h;exact ⟨_,⟨_,_,rfl,rfl,rfl,(decide_eq_true h).symm⟩,_,rfl,_,_,rfl,rfl,_,_,rfl,rfl,rfl⟩
  ·rename_i h;exact ⟨_,⟨_,_,rfl,rfl,rfl,(decide_eq_false h).symm⟩,_,rfl,_,_,rfl,rfl,_,_,rfl,rfl,rfl⟩
def fitI (x:Int):Int:=if -(2:Int)^63≤x∧x<(2:Int)^63 then x else 0
def fitB (x:Int):Bool:=decide (-(2:Int)^63≤x∧x<(2:Int)^63)
def RIB (a:Int) (b:Bool) (r:SV) (ro:List SX.Obj):Prop:=∃ a' b',r=.t [.i .i64 a',.b b']∧ro=[]∧a'=a∧b'=b
theorem bInt_ok (l:List Bool) (hl:l.length<2^20):FvC CX TB (.f 132 [] []) [.bl l] [] (RIB (fitI (X.sval l)) (fitB (X.sval l))):=
 br1 fun H v hv=>(X.bInt_any ext0V hv (by omega)).mono fun r H' ⟨h1,h2⟩=>by
  subst h2
  refine ⟨h1,?_⟩
  unfold X.intV
  split
  ·rename_i h;exact ⟨_,⟨_,_,rfl,rfl,(if_pos h).symm,(decide_eq_true h).symm⟩,_,rfl,_,_,rfl,rfl,_,_,rfl,rfl,rfl⟩
  ·rename_i h;exact ⟨_,⟨_,_,rfl,rfl,(if_neg h).symm,(decide_eq_false h).symm⟩,_,rfl,_,_,rfl,rfl,_,_,rfl,rfl,rfl⟩
def vval (l:List Int) (s:Bool):Int:=if s then X.sval (boolL l) else ((X.val (boolL l):Nat):Int)
theorem boolL_len (l:List Int):(boolL l).length=l.length:=by simp [boolL]
theorem vint_ok (l:List Int) (s:Bool) (hl:l.length<2^15) (hb:Byt l):FvC CX TB (.f 59 [] []) [.a [.u l,.b s]] []
  (RIB (if kn (nB l) then fitI (vval (nB l) (nS l s)) else 0) (kn (nB l)&&fitB (vval (nB l) (nS l s)))):=by
 have nv:=nB_nv hb
 refine fn_ok rfl rfl fun B D G hG q hq=>?_
 cbv
 refine call hG [] (norm_ok l s hl) ⟨rfl,rfl,rfl⟩ ?_
 rintro _ _ ⟨M,t,rfl,rfl,hM,ht⟩
 cbv
 have nvM:NV M:=by rw [hM];exact nv
 have hlen:=nvM.len
 rw [←hM,←ht] at hq
 refine call hG [] (vknown_ok M t (by omega)) ⟨rfl,rfl,rfl⟩ ?_
 rintro _ _ ⟨k,rfl,rfl,hk⟩
 cbv
 rw [nB_id nvM] at hk
 rw [←hk] at hq
 refine SX.ite hG (fun h1=>?_) (fun h1=>?_)
 ·have e:k=false:=by rw [hG] at h1;simpa [std] using h1
  exact hq _ _ ⟨_,_,rfl,rfl,by rw [e];rfl,by rw [e];rfl⟩
 have e:k=true:=by rw [hG] at h1;simpa [std] using h1
 rw [e] at hq
 refine SX.ite hG (fun h2=>?_) (fun h2=>?_)
 ·refine call hG [] (bools_ok M t (by omega)) ⟨rfl,rfl,rfl⟩ ?_
  rintro _ _ ⟨L,rfl,rfl,hL⟩
  cbv
  refine call hG [] (bInt_ok L (by rw [hL,boolL_len];omega)) ⟨rfl,rfl,rfl⟩ ?_
  rintro _ _ ⟨a,b,rfl,rfl,ha,hb2⟩
  cbv
  exact hq _ _ ⟨_,_,rfl,rfl,by rw [ha,hL,vval,if_pos h2];rfl,by rw [hb2,hL,vval,if_pos h2];rfl⟩
 refine call hG [] (bools_ok M t (by omega)) ⟨rfl,rfl,rfl⟩ ?_
 rintro _ _ ⟨L,rfl,rfl,hL⟩
 cbv
 refine call hG [] (bUint_ok L (by rw [hL,boolL_len];omega)) ⟨rfl,rfl,rfl⟩ ?_
 rintro _ _ ⟨a,b,rfl,rfl,ha,hb2⟩
 cbv
 have es:vval M t=((X.val (boolL M):Nat):Int):=by rw [vval,if_neg (by rw [h2];simp)]
 have hpos:(0:Int)≤((X.val (boolL M):Nat):Int):=Int.natCast_nonneg _
 rw [es] at hq
 rw [hL] at ha hb2
 generalize X.val (boolL M)=n at *
 refine SX.ite hG (fun h3=>?_) (fun h3=>?_)
 ·have e3:b=false:=by rw [hG] at h3;simpa [std] using h3
  have h4:¬ n<2^64:=of_decide_eq_false (by rw [←hb2,e3])
  have h5:¬ (-(2:Int)^63≤(n:Int)∧(n:Int)<(2:Int)^63):=by omega
  exact hq _ _ ⟨_,_,rfl,rfl,by rw [if_pos rfl,fitI,if_neg h5];rfl,by rw [fitB,decide_eq_false h5];rfl⟩
 have e3:b=true:=by rw [hG] at h3;simpa [std] using h3
 have h4:n<2^64:=of_decide_eq_true (by rw [←hb2,e3])
 rw [if_pos h4] at ha
 refine SX.ite hG (fun h5=>?_) (fun h5=>?_)
 ·have h6:(n:Int) > 9223372036854775807:=by
   rw [hG,ha] at h5
   exact of_decide_eq_true h5
  have h5:¬ (-(2:Int)^63≤(n:Int)∧(n:Int)<(2:Int)^63):=by omega
  exact hq _ _ ⟨_,_,rfl,rfl,by rw [if_pos rfl,fitI,if_neg h5];rfl,by rw [fitB,decide_eq_false h5];rfl⟩
 ·have h6:¬ (n:Int) > 9223372036854775807:=by
   rw [hG,ha] at h5
   exact of_decide_eq_false h5
  have h5:-(2:Int)^63≤(n:Int)∧(n:Int)<(2:Int)^63:=by omega
  have h7:G.cv .i64 a=(n:Int):=by rw [ha,hG];show fwrap .i64 (n:Int)=_;exact X.fw64 h5.1 h5.2
  exact hq _ _ ⟨_,_,rfl,rfl,by rw [if_pos rfl,fitI,if_pos h5];exact h7,by rw [fitB,decide_eq_true h5];rfl⟩
end Go.Proofs.YtdgbdkfoeaollaaGreatDoor.V
end
section
set_option linter.unusedSimpArgs false
set_option linter.unusedVariables false
namespace Go.Proofs.YtdgbdkfoeaollaaGreatDoor.V
open Go Go.AL Go.SX
def I64 (x:Int):Prop:=-9223372036854775808≤x∧x<9223372036854775808
theorem wrap64 {x:Int} (h:I64 x):fwrap .i64 x=x:=X.fw64 (by have:=h.1;omega) (by have:=h.2;omega)
theorem addw {B:AH} {D:Bs} {G:Sg} (hG:G=std CX TB B D) {a b:Int} (h:I64 (a+b)):G.ar .add .i64 a b=a+b:=by
 subst hG;exact wrap64 h
theorem subw {B:AH} {D:Bs} {G:Sg} (hG:G=std CX TB B D) {a b:Int} (h:I64 (a-b)):G.ar .sub .i64 a b=a-b:=by
 subst hG;exact wrap64 h
def win (hi lo:Int):Int:=if hi<lo then 1 else if 128≤hi-lo then 12 else 0
theorem fwu_mod (x:Int):fwrap .u64 x=x % 18446744073709551616:=by
 rw [fwrap_eq]
 rfl
theorem window_ok (hi lo:Int) (h1:I64 hi) (h2:I64 lo):FvC CX TB (.f 109 [] []) [.i .i64 hi,.i .i64 lo] [] (RI .i64 (win hi lo)):=by
 unfold I64 at h1 h2
 refine fn_ok rfl rfl fun B D G hG q hq=>?_
 cbv
 refine SX.ite hG (fun h3=>?_) (fun h3=>?_)
 ·have h4:hi<lo:=by rw [hG] at h3;exact of_decide_eq_true h3
  exact hq _ _ ⟨_,rfl,rfl,by rw [win,if_pos h4];rfl⟩
 have h4:¬ hi<lo:=by rw [hG] at h3;exact of_decide_eq_false h3
 have e:G.ar .sub .u64 (G.cv .u64 hi) (G.cv .u64 lo)=hi-lo:=by
  subst hG
  show fwrap .u64 (fwrap .u64 hi-fwrap .u64 lo)=_
  rw [fwu_mod,fwu_mod,fwu_mod]
  omega
 refine SX.ite hG (fun h5=>?_) (fun h5=>?_)
 ·have h5:G.cmp .geq (G.ar .sub .u64 (G.cv .u64 hi) (G.cv .u64 lo)) 128=true:=h5
  have h6:hi-lo≥128:=by rw [e,hG] at h5;exact of_decide_eq_true h5
  exact hq _ _ ⟨_,rfl,rfl,by rw [win,if_neg h4,if_pos (by omega)];rfl⟩
 ·have h5:G.cmp .geq (G.ar .sub .u64 (G.cv .u64 hi) (G.cv .u64 lo)) 128=false:=h5
  have h6:¬ hi-lo≥128:=by rw [e,hG] at h5;exact of_decide_eq_false h5
  exact hq _ _ ⟨_,rfl,rfl,by rw [win,if_neg h4,if_neg (by omega)];rfl⟩
theorem win_zero {hi lo:Int} (h:win hi lo=0):lo≤hi∧hi-lo<128:=by
 unfold win at h
 split at h
 ·cases h
 ·split at h
  ·cases h
  ·omega
theorem vresize_ok (l:List Int) (s:Bool) (w:Int) (hl:l.length<2^15) (hb:Byt l):FvC CX TB (.f 22 [] []) [.a [.u l,.b s],.i .i64 w] [] (RE (okW w) (rsz (nB l) (nS l s) w.toNat) (nS l s) 12):=by
 have nv:=nB_nv hb
 refine fn_ok rfl rfl fun B D G hG q hq=>?_
 cbv
 refine call hG [] (width_ok w) ⟨rfl,rfl,rfl⟩ ?_
 rintro _ _ ⟨c,rfl,rfl,hc⟩
 cbv
 refine SX.ite hG (fun h1=>?_) (fun h1=>?_)
 ·have e:c=false:=by rw [hG] at h1;simpa [std] using h1
  exact hq _ _ (.inr ⟨by rw [←hc];exact e,_,_,rfl,rfl,rfl,rfl⟩)
 have e:c=true:=by rw [hG] at h1;simpa [std] using h1
 have hw:1≤w∧w≤128:=by
  rw [hc] at e
  unfold okW at e
  simpa using e
 refine call hG [] (norm_ok l s hl) ⟨rfl,rfl,rfl⟩ ?_
 rintro _ _ ⟨M,t,rfl,rfl,hM,ht⟩
 cbv
 have nvM:NV M:=by rw [hM];exact nv
 have hlen:=nvM.len
 refine call hG [2] (resize_ok M t w nvM.ne (by omega) (by omega)) ⟨rfl,rfl,rfl⟩ ?_
 rintro _ _ ⟨L,g,rfl,rfl,hL,hg⟩
 cbv
 exact hq _ _ (.inl ⟨by rw [←hc];exact e,_,_,_,rfl,rfl,by rw [hL,hM,ht],by rw [hg,ht],rfl⟩)
def slF (L:List Int) (lo:Int) (k:Nat):Int:=if 0≤lo+(k:Int)∧lo+(k:Int)<(L.length:Int) then gu L (lo+(k:Int)) else 2
def slc (L:List Int) (hi lo:Int):List Int:=(List.range (hi-lo+1).toNat).map (slF L lo)
theorem slc_len (L:List Int) (hi lo:Int):(slc L hi lo).length=(hi-lo+1).toNat:=by simp [slc]
theorem slc_get {L:List Int} {hi lo:Int} {i:Nat} (h:i<(hi-lo+1).toNat):gu (slc L hi lo) i=slF L lo i:=by
 show (((List.range (hi-lo+1).toNat).map (slF L lo))[((i:Nat):Int).toNat]?).getD 0=_
 rw [Int.toNat_natCast,List.getElem?_map,List.getElem?_range h];rfl
theorem slice_ok (l:List Int) (s:Bool) (hi lo:Int) (hl:l.length<2^15) (hb:Byt l) (h1:I64 hi) (h2:I64 lo):FvC CX TB (.f 26 [] []) [.a [.u l,.b s],.i .i64 hi,.i .i64 lo] [] (RE (decide (win hi lo=0)) (slc (nB l) hi lo) false (win hi lo)):=by
 have nv:=nB_nv hb
 refine fn_ok rfl rfl fun B D G hG q hq=>?_
 cbv
 refine call hG [] (window_ok hi lo h1 h2) ⟨rfl,rfl,rfl⟩ ?_
 rintro _ _ ⟨c,rfl,rfl,hc⟩
 cbv
 refine SX.ite hG (fun h3=>?_) (fun h3=>?_)
 ·have h4:¬ c=0:=by rw [hG] at h3;simpa [std,cmpS] using h3
  exact hq _ _ (.inr ⟨by rw [←hc];exact decide_eq_false h4,_,_,rfl,rfl,rfl,hc⟩)
 have h4:c=0:=by rw [hG] at h3;simpa [std,cmpS] using h3
 have hw:=win_zero (by rw [←hc];exact h4)
 unfold I64 at h1 h2
 obtain ⟨Z,hZ⟩:∃ Z:Nat,hi-lo+1=(Z:Int):=⟨(hi-lo+1).toNat,by omega⟩
 have hZ1:1≤Z∧Z≤128:=by omega
 have hZi:∀ k:Nat,k<Z→I64 (lo+(k:Int)):=fun k hk=>by unfold I64;omega
 have hZn:(hi-lo+1).toNat=Z:=by omega
 have e1:G.ar .add .i64 (G.ar .sub .i64 hi lo) (Int.ofNat 1)=(Z:Int):=by
  rw [subw hG (by unfold I64;omega),addw hG (by unfold I64;show _≤hi-lo+1∧hi-lo+1<_;omega)]
  exact hZ
 refine call hG [] (norm_ok l s hl) ⟨rfl,rfl,rfl⟩ ?_
 rintro _ _ ⟨M,t,rfl,rfl,hM,ht⟩
 cbv
 have nvM:NV M:=by rw [hM];exact nv
 have hlen:=nvM.len
 refine call hG [] (fill_ok (.ofNat 2) (G.ar .add .i64 (G.ar .sub .i64 hi lo) (Int.ofNat 1)) false (by rw [e1];omega)) ⟨rfl,rfl,rfl⟩ ?_
 rintro _ _ ⟨F,g,rfl,rfl,hF,hg⟩
 cbv
 rw [e1] at hF
 have hFl:F.length=Z:=by rw [hF];simp
 have hF2:∀ i:Nat,i<Z→gu F i=2:=fun i hi=>by
  rw [hF];unfold gu;rw [Int.toNat_natCast,List.getElem?_replicate,if_pos (by simpa using hi)];rfl
 refine lp hG (α:=Int×List Int) (fun p=>∃ n:Nat,p.1=(n:Int)∧n≤Z∧p.2.length=Z∧∀ i:Nat,i<Z→gu p.2 i=if i<n then slF M lo i else 2) (fun p=>Z-p.1.toNat) (fun s p=>(s.put (some 29) (.i .i64 p.1)).setO 3 (.u p.2)) (0,F) ⟨0,rfl,Nat.zero_le _,hFl,by simpa using hF2⟩ (by constructor<;>cbv<;>simp) ?_
 rintro ⟨j,L⟩ ⟨n,hj,hn,hL,hi5⟩
 have hL:L.length=Z:=hL
 cbv
 have hj:j=(n:Int):=hj
 have hi5:∀ i:Nat,i<Z→gu L i=if i<n then slF M lo i else 2:=hi5
 have key:∀ x,x=slF M lo n→G.su L j x=L.set n (slF M lo n):=fun x hx=>by rw [hx,hG,hj];rfl
 have inv:n<Z→∀ i:Nat,i<Z→gu (L.set n (slF M lo n)) i=if i<n+1 then slF M lo i else 2:=fun h i hlt=>by
  rw [gu_set (by omega)]
  split
  ·rename_i e;rw [e,if_pos (by omega)]
  ·rw [hi5 i hlt]
   by_cases h5:i<n
   ·rw [if_pos h5,if_pos (by omega)]
   ·rw [if_neg h5,if_neg (by omega)]
 have inv2:n<Z→slF M lo n=2→∀ i:Nat,i<Z→gu L i=if i<n+1 then slF M lo i else 2:=fun h hs i hlt=>by
  rw [hi5 i hlt]
  by_cases h5:i<n
  ·rw [if_pos h5,if_pos (by omega)]
  ·rw [if_neg h5]
   by_cases h7:i=n
   ·rw [if_pos (by omega),h7,hs]
   ·rw [if_neg (by omega)]
 refine SX.ite hG (fun h6=>?_) (fun h6=>?_)
 ·have h6:n<Z:=by
   rw [hG,hj] at h6
   have h6:(n:Int)<(F.length:Int):=of_decide_eq_true h6
   omega
  have ea:G.ar .add .i64 lo j=lo+(n:Int):=by rw [hj];exact addw hG (hZi n h6)
  refine SX.ite hG (fun h7=>?_) (fun h7=>?_)
  ·have h7:lo+(n:Int)≥0:=by
    have h7:G.cmp .geq (G.ar .add .i64 lo j) 0=true:=h7
    rw [ea,hG] at h7;exact of_decide_eq_true h7
   refine SX.ite hG (fun h8=>?_) (fun h8=>?_)
   ·have h8:lo+(n:Int)<(M.length:Int):=by
     have h8:G.cmp .lss (G.ar .add .i64 lo j) (G.lu M)=true:=h8
     rw [ea,hG] at h8;exact of_decide_eq_true h8
    have v1:G.ix (G.ar .add .i64 lo j) (G.lu M):=by rw [ea,hG];exact ⟨h7,h8⟩
    have v2:G.ix j (G.lu L):=by rw [hG,hj];show 0≤(n:Int)∧(n:Int)<(L.length:Int);omega
    refine ⟨v1,v1,v2,v2,okd hG rfl ?_⟩
    have ex:G.gu M (G.ar .add .i64 lo j)=slF M lo n:=by unfold slF;rw [if_pos ⟨h7,h8⟩,ea,hG];rfl
    have ek:=key _ ex
    have iv:=inv h6
    rw [←ek] at iv
    have il:(G.su L j (G.gu M (G.ar .add .i64 lo j))).length=Z:=by rw [ek];simp [hL]
    exact ⟨(G.ar .add .i64 j (Int.ofNat 1),G.su L j (G.gu M (G.ar .add .i64 lo j))),⟨n+1,inc hG hj (by omega),h6,il,iv⟩,mu hj (inc hG hj (by omega)) h6,by constructor<;>cbv<;>simp⟩
   ·have h8:¬ lo+(n:Int)<(M.length:Int):=by
     have h8:G.cmp .lss (G.ar .add .i64 lo j) (G.lu M)=false:=h8
     rw [ea,hG] at h8;exact of_decide_eq_false h8
    exact ⟨(G.ar .add .i64 j (Int.ofNat 1),L),⟨n+1,inc hG hj (by omega),h6,hL,inv2 h6 (by unfold slF;rw [if_neg (by omega)])⟩,mu hj (inc hG hj (by omega)) h6,by constructor<;>cbv<;>simp⟩
  ·have h7:¬ lo+(n:Int)≥0:=by
    have h7:G.cmp .geq (G.ar .add .i64 lo j) 0=false:=h7
    rw [ea,hG] at h7;exact of_decide_eq_false h7
   exact ⟨(G.ar .add .i64 j (Int.ofNat 1),L),⟨n+1,inc hG hj (by omega),h6,hL,inv2 h6 (by unfold slF;rw [if_neg (by omega)])⟩,mu hj (inc hG hj (by omega)) h6,by constructor<;>cbv<;>simp⟩
 ·have h6:Z≤n:=by
   rw [hG,hj] at h6
   have h6:¬ (n:Int)<(F.length:Int):=of_decide_eq_false h6
   omega
  refine hq _ _ (.inl ⟨by rw [←hc];exact decide_eq_true h4,_,_,_,rfl,rfl,?_,hg,rfl⟩)
  rw [←hM]
  refine gu_ext (by rw [hL,slc_len,hZn]) fun i hlt=>?_
  rw [hL] at hlt
  rw [hi5 i hlt,if_pos (by omega),slc_get (by rw [hZn];exact hlt)]
def ptF (A:List Int) (lo:Int) (B:List Int) (n:Nat) (i:Nat):Int:=if lo≤(i:Int)∧(i:Int)<lo+(n:Int) then gu B ((i:Int)-lo) else gu A i
def putL (A:List Int) (lo:Int) (B:List Int):List Int:=(List.range A.length).map (ptF A lo B B.length)
theorem putL_len (A:List Int) (lo:Int) (B:List Int):(putL A lo B).length=A.length:=by simp [putL]
theorem putL_get {A:List Int} {lo:Int} {B:List Int} {i:Nat} (h:i<A.length):gu (putL A lo B) i=ptF A lo B B.length i:=by
 show (((List.range A.length).map (ptF A lo B B.length))[((i:Nat):Int).toNat]?).getD 0=_
 rw [Int.toNat_natCast,List.getElem?_map,List.getElem?_range h];rfl
theorem put_ok (l m:List Int) (s t:Bool) (hi lo:Int) (hl:l.length<2^15) (hm:m.length<2^15) (bl:Byt l) (bm:Byt m) (h1:I64 hi) (h2:I64 lo):FvC CX TB (.f 27 [] []) [.a [.u l,.b s],.i .i64 hi,.i .i64 lo,.a [.u m,.b t]] [] (RE (decide (win hi lo=0)) (putL (nB l) lo (rsz (nB m) (nS m t) (hi-lo+1).toNat)) (nS l s) (win hi lo)):=by
 have nvl:=nB_nv bl
 have nvm:=nB_nv bm
 refine fn_ok rfl rfl fun B D G hG q hq=>?_
 cbv
 refine call hG [] (window_ok hi lo h1 h2) ⟨rfl,rfl,rfl⟩ ?_
 rintro _ _ ⟨c,rfl,rfl,hc⟩
 cbv
 refine SX.ite hG (fun h3=>?_) (fun h3=>?_)
 ·have h4:¬ c=0:=by rw [hG] at h3;simpa [std,cmpS] using h3
  exact hq _ _ (.inr ⟨by rw [←hc];exact decide_eq_false h4,_,_,rfl,rfl,rfl,hc⟩)
 have h4:c=0:=by rw [hG] at h3;simpa [std,cmpS] using h3
 have hw:=win_zero (by rw [←hc];exact h4)
 unfold I64 at h1 h2
 obtain ⟨Z,hZ⟩:∃ Z:Nat,hi-lo+1=(Z:Int):=⟨(hi-lo+1).toNat,by omega⟩
 have hZ1:1≤Z∧Z≤128:=by omega
 have hZi:∀ k:Nat,k<Z→I64 (lo+(k:Int)):=fun k hk=>by unfold I64;omega
 have hZn:(hi-lo+1).toNat=Z:=by omega
 rw [hZn] at hq
 have e1:G.ar .add .i64 (G.ar .sub .i64 hi lo) (Int.ofNat 1)=(Z:Int):=by
  rw [subw hG (by unfold I64;omega),addw hG (by unfold I64;show _≤hi-lo+1∧hi-lo+1<_;omega)]
  exact hZ
 refine call hG [] (norm_ok l s hl) ⟨rfl,rfl,rfl⟩ ?_
 rintro _ _ ⟨A,g1,rfl,rfl,hA,hg1⟩
 cbv
 have nvA:NV A:=by rw [hA];exact nvl
 have lenA:=nvA.len
 refine call hG [] (norm_ok m t hm) ⟨rfl,rfl,rfl⟩ ?_
 rintro _ _ ⟨M,g2,rfl,rfl,hM,hg2⟩
 cbv
 have nvM:NV M:=by rw [hM];exact nvm
 have lenM:=nvM.len
 refine call hG [4] (resize_ok M g2 (G.ar .add .i64 (G.ar .sub .i64 hi lo) (Int.ofNat 1)) nvM.ne (by omega) (by rw [e1];omega)) ⟨rfl,rfl,rfl⟩ ?_
 rintro _ _ ⟨F,g3,rfl,rfl,hF,hg3⟩
 cbv
 rw [e1,Int.toNat_natCast] at hF
 have hFl:F.length=Z:=by rw [hF,rsz_len]
 refine okd hG rfl ?_
 refine lp hG (α:=Int×List Int) (fun p=>∃ n:Nat,p.1=(n:Int)∧n≤Z∧p.2.length=A.length∧∀ i:Nat,i<A.length→gu p.2 i=ptF A lo F n i) (fun p=>Z-p.1.toNat) (fun s p=>(s.put (some 33) (.i .i64 p.1)).setO 3 (.u p.2)) (0,A) ⟨0,rfl,Nat.zero_le _,rfl,fun i hi=>by unfold ptF;rw [if_neg (by omega)]⟩ (by constructor<;>cbv<;>simp) ?_
 rintro ⟨j,L⟩ ⟨n,hj,hn,hL,hi5⟩
 have hL:L.length=A.length:=hL
 cbv
 have hj:j=(n:Int):=hj
 have hi5:∀ i:Nat,i<A.length→gu L i=ptF A lo F n i:=hi5
 refine SX.ite hG (fun h6=>?_) (fun h6=>?_)
 ·have h6:n<Z:=by
   rw [hG,hj] at h6
   have h6:(n:Int)<(F.length:Int):=of_decide_eq_true h6
   omega
  have v1:G.ix j (G.lu F):=by rw [hG,hj];show 0≤(n:Int)∧(n:Int)<(F.length:Int);omega
  refine ⟨v1,v1,?_⟩
  have ea:G.ar .add .i64 lo j=lo+(n:Int):=by rw [hj];exact addw hG (hZi n h6)
  have same:¬ (0≤lo+(n:Int)∧lo+(n:Int)<(A.length:Int))→∀ i:Nat,i<A.length→gu L i=ptF A lo F (n+1) i:=fun h i hlt=>by
   rw [hi5 i hlt]
   unfold ptF
   by_cases h5:lo≤(i:Int)∧(i:Int)<lo+(n:Int)
   ·rw [if_pos h5,if_pos (by omega)]
   ·rw [if_neg h5,if_neg (by omega)]
  refine SX.ite hG (fun h7=>?_) (fun h7=>?_)
  ·have h7:lo+(n:Int)≥0:=by
    have h7:G.cmp .geq (G.ar .add .i64 lo j) 0=true:=h7
    rw [ea,hG] at h7;exact of_decide_eq_true h7
   refine SX.ite hG (fun h8=>?_) (fun h8=>?_)
   ·have h8:lo+(n:Int)<(A.length:Int):=by
     have h8:G.cmp .lss (G.ar .add .i64 lo j) (G.lu L)=true:=h8
     rw [ea,hG] at h8
     have h8:lo+(n:Int)<(L.length:Int):=of_decide_eq_true h8
     omega
    have v2:G.ix (G.ar .add .i64 lo j) (G.lu L):=by rw [ea,hG];show 0≤lo+(n:Int)∧lo+(n:Int)<(L.length:Int);omega
    refine ⟨v2,v2,?_⟩
    obtain ⟨k,hk⟩:∃ k:Nat,lo+(n:Int)=(k:Int):=⟨(lo+(n:Int)).toNat,by omega⟩
    have hkA:k<A.length:=by omega
    have ek:G.su L (G.ar .add .i64 lo j) (G.gu F j)=L.set k (gu F n):=by rw [ea,hk,hj,hG];rfl
    have il:(G.su L (G.ar .add .i64 lo j) (G.gu F j)).length=A.length:=by rw [ek];simp [hL]
    have iv:∀ i:Nat,i<A.length→gu (G.su L (G.ar .add .i64 lo j) (G.gu F j)) i=ptF A lo F (n+1) i:=fun i hlt=>by
     rw [ek,gu_set (by omega)]
     split
     ·rename_i e
      unfold ptF
      rw [if_pos (by omega)]
      congr 1
      omega
     ·rename_i e
      rw [hi5 i hlt]
      unfold ptF
      by_cases h5:lo≤(i:Int)∧(i:Int)<lo+(n:Int)
      ·rw [if_pos h5,if_pos (by omega)]
      ·rw [if_neg h5,if_neg (by omega)]
    exact ⟨(G.ar .add .i64 j (Int.ofNat 1),G.su L (G.ar .add .i64 lo j) (G.gu F j)),⟨n+1,inc hG hj (by omega),h6,il,iv⟩,mu hj (inc hG hj (by omega)) h6,by constructor<;>cbv<;>simp⟩
   ·have h8:¬ lo+(n:Int)<(A.length:Int):=by
     have h8:G.cmp .lss (G.ar .add .i64 lo j) (G.lu L)=false:=h8
     rw [ea,hG] at h8
     have h8:¬ lo+(n:Int)<(L.length:Int):=of_decide_eq_false h8
     omega
    exact ⟨(G.ar .add .i64 j (Int.ofNat 1),L),⟨n+1,inc hG hj (by omega),h6,hL,same (by omega)⟩,mu hj (inc hG hj (by omega)) h6,by constructor<;>cbv<;>simp⟩
  ·have h7:¬ lo+(n:Int)≥0:=by
    have h7:G.cmp .geq (G.ar .add .i64 lo j) 0=false:=h7
    rw [ea,hG] at h7;exact of_decide_eq_false h7
   exact ⟨(G.ar .add .i64 j (Int.ofNat 1),L),⟨n+1,inc hG hj (by omega),h6,hL,same (by omega)⟩,mu hj (inc hG hj (by omega)) h6,by constructor<;>cbv<;>simp⟩
 ·have h6:Z≤n:=by
   rw [hG,hj] at h6
   have h6:¬ (n:Int)<(F.length:Int):=of_decide_eq_false h6
   omega
  have hnZ:n=F.length:=by omega
  refine hq _ _ (.inl ⟨by rw [←hc];exact decide_eq_true h4,_,_,_,rfl,rfl,?_,hg1,rfl⟩)
  rw [←hA,←hM,←hg2,←hF]
  refine gu_ext (by rw [hL,putL_len]) fun i hlt=>?_
  rw [hL] at hlt
  rw [hi5 i hlt,putL_get hlt,hnZ]
end Go.Proofs.YtdgbdkfoeaollaaGreatDoor.V
end
section
set_option linter.unusedSimpArgs false
set_option linter.unusedVariables false
namespace Go.Proofs.YtdgbdkfoeaollaaGreatDoor.V
open Go Go.AL Go.SX
theorem gu_app {l m:List Int} {i:Nat}:gu (l++m) i=if i<l.length then gu l i else gu m (i-l.length:Nat):=by
 unfold gu
 simp only [Int.toNat_natCast]
 split
 ·rename_i h;rw [List.getElem?_append_left h]
 ·rename_i h;rw [List.getElem?_append_right (by omega)]
end Go.Proofs.YtdgbdkfoeaollaaGreatDoor.V
end
