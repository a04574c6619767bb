/- Reductions; balance and what stands on it. -/
import Derived.Test.YtdgbdkfoeaollaaGreatDoorVA
import Derived.Test.YtdgbdkfoeaollaaGreatDoorALe
import Derived.Test.YtdgbdkfoeaollaaGreatDoorBV
section
set_option linter.unusedSimpArgs false
set_option linter.unusedVariables false
namespace Go.Proofs.YtdgbdkfoeaollaaGreatDoor.V
open Go Go.AL Go.SX
def bg (l:List Int) (s:Bool) (m:List Int) (t:Bool):Bool:=nS l s&&nS m t
def bwd (l m:List Int):Nat:=Nat.max (nB l).length (nB m).length
def bX (l:List Int) (s:Bool) (m:List Int) (t:Bool):List Int:=rsz (nB l) (bg l s m t) (bwd l m)
def bY (l:List Int) (s:Bool) (m:List Int) (t:Bool):List Int:=rsz (nB m) (bg l s m t) (bwd l m)
def RP (L M:List Int) (g:Bool) (r:SV) (ro:List SX.Obj):Prop:=∃ L' M' g' h',r=.t [.a [.s 0,.b g'],.a [.s 1,.b h']]∧ro=[.u L',.u M']∧L'=L∧M'=M∧g'=g∧h'=g
def balOps:List IOper:=[⟨(some 29),none,(.load (some 2) (.tmp 2))⟩,⟨(some 30),none,(.mov (.tmp 7))⟩,⟨(some 31),none,(.call (.func 106) [(.tmp 29),(.tmp 30)])⟩,⟨(some 32),none,(.load (some 2) (.tmp 3))⟩,⟨(some 33),none,(.mov (.tmp 7))⟩,⟨(some 34),none,(.call (.func 106) [(.tmp 32),(.tmp 33)])⟩,⟨none,none,(.store 2 (.tmp 4) (.tmp 31))⟩,⟨none,none,(.store 2 (.tmp 5) (.tmp 34))⟩]
def tailB:IC:=.seq (.region true balOps [0,0,3,0,0,31,63,127]) .ret
def stB (X Y:List Int) (g:Bool) (w:Int):St:=⟨((((T.nil.set 2 (SV.o 0 0)).set 3 (.o 1 0)).set 4 (.o 2 0)).set 5 (.o 3 0)).set 7 (.i .i64 w),[.x [.s 4,.b g],.x [.s 5,.b g],.x [.nil,.kb false],.x [.nil,.kb false],.u X,.u Y]⟩
def obB (X Y:List Int):List SX.Obj:=[.dead,.dead,.x [.nil,.kb false],.x [.nil,.kb false],.u X,.u Y]
def stB2 (X Y:List Int) (g:Bool) (w:Int):St:=⟨((((T.nil.set 2 (SV.p [.s 4,.b g])).set 3 (.p [.s 5,.b g])).set 4 (.o 2 0)).set 5 (.o 3 0)).set 7 (.i .i64 w),obB X Y⟩
def balK (q:SV→List SX.Obj→Prop):St→List (Bool×Bool)→Prop:=fun s' fl=>fl=[(true,false),(false,false),(true,true),(true,false),(false,false),(true,true),(true,true),(true,true)]∧post [.cell 4 (some 2),.cell 5 (some 2)] q .ret s'
theorem bal_wo {B:AH} {D:Bs} {G:Sg} (hG:G=std CX TB B D) (X Y:List Int) (g:Bool) (w:Int) (hX:X≠[]) (hY:Y≠[]) (lX:X.length<2^14) (lY:Y.length<2^14) (hw:1≤w∧w<2^14) (q:SV→List SX.Obj→Prop)
  (hq:∀ L M g' h',L=rsz X g w.toNat→M=rsz Y g w.toNat→g'=g→h'=g→q (.t [.a [.s 0,.b g'],.a [.s 1,.b h']]) [.u L,.u M]):WO G TB balOps (stB2 X Y g w) [] (balK q):=by
 cbv
 refine call hG [4] (resize_ok X g w hX lX hw) ⟨rfl,rfl,rfl⟩ ?_
 rintro _ _ ⟨L,g1,rfl,rfl,hL,hg1⟩
 cbv
 refine call hG [5] (resize_ok Y g w hY lY hw) ⟨rfl,rfl,rfl⟩ ?_
 rintro _ _ ⟨M,g2,rfl,rfl,hM,hg2⟩
 cbv
 exact hq L M g1 g2 hL hM hg1 hg2
theorem obB_sub {X Y:List Int} {g:Bool} {w:Int}:∀ (i:Nat) (o:SX.Obj),(obB X Y)[i]?=some o→o=SX.Obj.dead∨(stB X Y g w).objs[i]?=some o:=by
 intro i o h
 match i,h with
 | 0,h=>cases h;exact .inl rfl
 | 1,h=>cases h;exact .inl rfl
 | i+2,h=>exact .inr h
theorem obB_own {m:List Value} {X Y:List Int} {g:Bool} {w:Int}:∀ id,Own m (obB X Y) id→Own m (stB X Y g w).objs id:=by
 rintro id ⟨i,o,v,h1,h2,h3,h4⟩
 rcases obB_sub i o h1 with h | h
 ·exact absurd h h2
 ·exact ⟨i,o,v,h,h2,h3,h4⟩
theorem bal_tail {B:AH} {D:Bs} {m:List Value} {E:Env} {H:AH} (X Y:List Int) (g:Bool) (w:Int) (hs:Sat TB B D m (stB X Y g w) E H) (id3:Nat) (hi:m[1]?=some (.pointer (some ⟨id3,0,none⟩))) (hlow:∀ id,Own m (obB X Y) id→id3<id) (hX:X≠[]) (hY:Y≠[]) (lX:X.length<2^14) (lY:Y.length<2^14) (hw:1≤w∧w<2^14) (q:SV→List SX.Obj→Prop)
  (hq:∀ L M g' h',L=rsz X g w.toNat→M=rsz Y g w.toNat→g'=g→h'=g→q (.t [.a [.s 0,.b g'],.a [.s 1,.b h']]) [.u L,.u M]):Cw CX tailB E H fun c E' H'=>∃ s' m',post [.cell 4 (some 2),.cell 5 (some 2)] q c s'∧Sat TB B ⟨D.d,fun _=>none⟩ m' s' E' H':=by
 have hsub:=obB_sub (X:=X) (Y:=Y) (g:=g) (w:=w)
 have hO0:=obB_own (m:=m) (X:=X) (Y:=Y) (g:=g) (w:=w)
 have box:∀ (t i c:Nat),(stB X Y g w).env.get t=some (.o i 0)→(stB X Y g w).objs[i]?=some (.x [.s c,.b g])→(obB X Y)[i]?=some SX.Obj.dead→∃ v,E.get t=some v∧Den (Own m (obB X Y)) m H (.p [.s c,.b g]) v:=by
  intro t i c h1 h2 h3
  obtain ⟨v,e1,id,e2,rfl⟩:=hs.env t _ h1
  obtain ⟨id',vs,h4,h5,h6,h7⟩:=hs.obs.ok i _ _ h2 e2
  cases h4
  refine ⟨_,e1,⟨id,0,none⟩,vs,rfl,DenL.mono (H:=H) (H':=H) (fun id _ h=>hO0 id h) (Nat.le_refl _) (fun _ _ _=>rfl) _ _ (fun _ _ _ h=>h) h7,⟨vs,0⟩,h5,?_,h6,?_⟩
  ·rintro ⟨j,o,v,k1,k2,k3,k4⟩
   have:=hs.obs.dis i j _ o _ v id h2 (by intro h;cases h) ((hsub j o k1).resolve_left k2) k2 e2 k3 rfl k4
   subst this
   rw [h3] at k1;cases k1;exact k2 rfl
  ·intro j v hv
   show vs[0+j]?=some v
   rw [Nat.zero_add];exact hv
 obtain ⟨hO,hk⟩:=hs.kill (env':=(stB2 X Y g w).env) (objs':=obB X Y) rfl hsub (by
   intro t x h
   simp only [stB2,T.get_set] at h
   split at h
   ·cases h;rename_i e;subst e
    obtain ⟨v,e1,e2⟩:=hs.env 7 (.i .i64 w) rfl
    exact ⟨v,e1,e2⟩
   split at h
   ·cases h;rename_i e;subst e
    obtain ⟨v,e1,e2⟩:=hs.env 5 (.o 3 0) rfl
    exact ⟨v,e1,e2⟩
   split at h
   ·cases h;rename_i e;subst e
    obtain ⟨v,e1,e2⟩:=hs.env 4 (.o 2 0) rfl
    exact ⟨v,e1,e2⟩
   split at h
   ·cases h;rename_i e;subst e
    exact box 3 1 5 rfl rfl rfl
   split at h
   ·cases h;rename_i e;subst e
    exact box 2 0 4 rfl rfl rfl
   ·cases h)
 refine Cw.seq (Cw.region3 ?_)
 refine (Ow.len (Ow.unset (t:=3) rfl (WO_ok (fl:=[]) (os:=balOps) (K:=balK q) (bal_wo rfl X Y g w hX hY lX lY hw q hq) hk))).mono ?_
 rintro E' H' fl ⟨⟨⟨s',m',f,⟨hf,hp⟩,hle,hs'⟩,q3⟩,hlen⟩
 subst hf
 obtain ⟨p3,e3,i3,k3,rfl⟩:=hs.env 3 (.o 1 0) rfl
 rw [hi] at k3;cases k3
 obtain ⟨b3,_⟩:id3<H.n∧True:=by
  obtain ⟨id',vs,h1,h2,-⟩:=hs.obs.ok 1 (.x [.s 5,.b g]) _ rfl hi
  cases h1;exact ⟨h2,trivial⟩
 have q3':T.get E' 3=some (.pointer (some ⟨id3,0,none⟩)):=by rw [q3];exact e3
 have hwl:id3+1≤H'.wl:=hs'.fr.wl (id3+1) b3 b3 fun id h=>hlow id h
 refine ⟨mark2_ok 3 (by simp [hlen]) hle ?_ (by decide),fun y hy=>?_⟩
 ·simp only [balOps,List.drop_succ_cons,List.drop_zero,markC,Bool.and_eq_true]
  refine ⟨?_,?_⟩
  ·simp only [oldLoad,q3',Bool.and_eq_true]
   exact ⟨Nat.ble_eq_true_of_le b3,by decide⟩
  ·simp only [loadBlk,q3']
   exact missed_ok fun i o os' h1 h2=>.inl hwl
 ·exact Cw.ret ⟨s',m',hp,hs.back2 hs' hO hy⟩
theorem nB_any (l:List Int):nB l≠[]∧(nB l).length≤128:=by
 unfold nB
 split
 ·rename_i h
  unfold chk at h
  split at h
  ·cases h
  ·split at h
   ·cases h
   ·rename_i h1 h2
    exact ⟨fun e=>h1 (by rw [e];rfl),by omega⟩
 ·exact ⟨by simp,by simp⟩
theorem balance_ok (l m:List Int) (s t:Bool) (hl:l.length<2^14) (hm:m.length<2^14):FvC CX TB (.f 98 [] []) [.a [.u l,.b s],.a [.u m,.b t]] [] (RP (bX l s m t) (bY l s m t) (bg l s m t)):=by
 refine fn_sws rfl rfl fun B d q hq m0 E H hs=>?_
 refine Cw.seq (Cw.region ?_)
 refine wop_ok (K:=fun x s' f=>x=.o 0 0∧s'=⟨envS [.a [.u l,.b s],.a [.u m,.b t]] 0,[.x [.u l,.b s]]⟩) rfl (by cbv) hs fun x s1 f E1 H1 m1 b ⟨hx,hs'⟩ hs1 _=>?_
 subst hx hs'
 refine wop_ok (K:=fun x s' f=>x=.o 1 0∧s'=⟨((envS [.a [.u l,.b s],.a [.u m,.b t]] 0).set 2 (.o 0 0)),[.x [.u l,.b s],.x [.u m,.b t]]⟩) rfl (by cbv) hs1 fun x s2 f E2 H2 m2 b ⟨hx,hs'⟩ hs2 _=>?_
 subst hx hs'
 obtain ⟨p2,e2,id2,k2,rfl⟩:=hs2.env 2 (.o 0 0) rfl
 obtain ⟨p3,e3,id3,k3,rfl⟩:=hs2.env 3 (.o 1 0) rfl
 have b3:id3<H2.n:=by
  obtain ⟨id',vs,h1,h2,-⟩:=hs2.obs.ok 1 (.x [.u m,.b t]) _ rfl k3
  cases h1;exact h2
 obtain ⟨D,hD⟩:∃ D:Bs,D=⟨Own m2 [.x [.u l,.b s],.x [.u m,.b t]],boxM m2 [.x [.u l,.b s],.x [.u m,.b t]]⟩:=⟨_,rfl⟩
 have hs3:Sat TB H2 D m2 (SX.St.put ⟨((envS [.a [.u l,.b s],.a [.u m,.b t]] 0).set 2 (.o 0 0)),[.x [.u l,.b s],.x [.u m,.b t]]⟩ (some 3) (.o 1 0)) E2 H2:=by
  subst hD
  refine ⟨hs2.obs,fun id h=>.inr h,hs2.env,⟨Nat.le_refl _,fun _ _ _=>rfl,fun x h _ _=>h⟩,fun i v hv=>?_,hs2.gl⟩
  change boxM m2 [.x [.u l,.b s],.x [.u m,.b t]] i=some v at hv
  unfold boxM at hv
  split at hv
  ·rename_i cs hc;exact ⟨hv,cs,hc⟩
  ·exact (by cases hv)
 have f2:∀ {m:List Value} {s:St} {E:Env} {H:AH},Sat TB H2 D m s E H→m[0]?=some (.pointer (some ⟨id2,0,none⟩))∧m[1]?=some (.pointer (some ⟨id3,0,none⟩)):=by
  intro m s E H hs
  subst hD
  exact ⟨(hs.fix 0 _ k2).1,(hs.fix 1 _ k3).1⟩
 obtain ⟨G,hG⟩:∃ G,G=std CX TB H2 D:=⟨_,rfl⟩
 refine (WO_ok (fl:=[]) (K:=fun s' fl=>s'=⟨((((envS [.a [.u l,.b s],.a [.u m,.b t]] 0).set 2 (.o 0 0)).set 3 (.o 1 0)).set 4 (.o 2 0)).set 5 (.o 3 0),[.x [.u l,.b s],.x [.u m,.b t],.x [.nil,.kb false],.x [.nil,.kb false]]⟩) (by cbv) hs3).mono ?_
 rintro E4 H4 fl ⟨s4,m4,fl4,hK,-,hs4⟩
 subst hK
 refine ⟨fun h=>(by cases h),?_⟩
 have h2own:∀ id,D.d id→Own m2 [.x [.u l,.b s],.x [.u m,.b t]] id:=by subst hD;exact fun _ h=>h
 refine Cw.mono (Q:=fun c E' H'=>∃ s' m',post [.cell 4 (some 2),.cell 5 (some 2)] q c s'∧Sat TB H2 ⟨D.d,fun _=>none⟩ m' s' E' H') ?_ fun c E' H' ⟨s',m',hp,hs'⟩=>⟨s',m',hp,hs2.trans hs' h2own⟩
 refine cw_seq hG hs4 fun R hR=>?_
 cbv
 refine call hG [] (norm_ok l s (by omega)) ⟨rfl,rfl,rfl⟩ ?_
 rintro _ _ ⟨X,g1,rfl,rfl,hX,hg1⟩
 cbv
 refine call hG [] (norm_ok m t (by omega)) ⟨rfl,rfl,rfl⟩ ?_
 rintro _ _ ⟨Y,g2,rfl,rfl,hY,hg2⟩
 cbv
 refine okd hG rfl ?_
 refine hR _ ?_
 clear hR R hs4
 intro m4 E4 H4 hs4
 have aX:=nB_any l
 have aY:=nB_any m
 rw [←hX] at aX
 rw [←hY] at aY
 have em:G.mx (G.lu X) (G.lu Y)=(bwd l m:Int):=by
  unfold bwd
  rw [←hX,←hY]
  subst hG
  show AL.mx ((X.length:Nat):Int) ((Y.length:Nat):Int)=((max X.length Y.length:Nat):Int)
  unfold AL.mx
  simp
  omega
 have hw:1≤G.mx (G.lu X) (G.lu Y)∧G.mx (G.lu X) (G.lu Y)<2^14:=by
  rw [em]
  unfold bwd
  rw [←hX,←hY]
  have:=List.length_pos_iff.2 aX.1
  have h1:=aX.2;have h2:=aY.2
  show 1≤((max X.length Y.length:Nat):Int)∧((max X.length Y.length:Nat):Int)<2^14
  omega
 have lX:X.length<2^14:=by have:=aX.2;omega
 have lY:Y.length<2^14:=by have:=aY.2;omega
 have hq2:∀ g,g=(g1&&g2)→∀ L M g' h',L=rsz X g (G.mx (G.lu X) (G.lu Y)).toNat→M=rsz Y g (G.mx (G.lu X) (G.lu Y)).toNat→g'=g→h'=g→q (.t [.a [.s 0,.b g'],.a [.s 1,.b h']]) [.u L,.u M]:=by
  intro g hg L M g' h' e1 e2 e3 e4
  rw [em,hX,hg,hg1,hg2] at e1
  rw [em,hY,hg,hg1,hg2] at e2
  rw [hg,hg1,hg2] at e3 e4
  exact hq _ _ ⟨L,M,g',h',rfl,rfl,e1,e2,e3,e4⟩
 have hlow:∀ {m4:List Value} {E4:Env} {H4:AH} {g:Bool} {w:Int},Sat TB H2 D m4 (stB X Y g w) E4 H4→m4[0]?=some (.pointer (some ⟨id2,0,none⟩))→m4[1]?=some (.pointer (some ⟨id3,0,none⟩))→∀ id,Own m4 (obB X Y) id→id3<id:=by
  intro m4 E4 H4 g w hs c2 c3 id ho
  rcases hs.own id (obB_own id ho) with h | h
  ·omega
  ·exfalso
   obtain ⟨i,o,v,a1,a2,a3,a4⟩:=ho
   have a5:=(obB_sub (g:=g) (w:=w) i o a1).resolve_left a2
   obtain ⟨j,o',v',d1,d2,d3,d4⟩:=h2own id h
   match j,d1,d3 with
   | 0,d1,d3=>
     rw [k2] at d3;cases d3;cases d4
     have:=hs.obs.dis 0 i _ o _ v id2 rfl (by intro h;cases h) a5 a2 c2 a3 rfl a4
     subst this
     cases a1;exact a2 rfl
   | 1,d1,d3=>
     rw [k3] at d3;cases d3;cases d4
     have:=hs.obs.dis 1 i _ o _ v id3 rfl (by intro h;cases h) a5 a2 c3 a3 rfl a4
     subst this
     cases a1;exact a2 rfl
   | j+2,d1,d3=>cases d1
 refine cw_seqP hG hs4 fun P R hP hR=>?_
 have key:∀ g,g=(g1&&g2)→P ⟨(((((T.nil.set 2 (SV.o 0 0)).set 3 (.o 1 0)).set 4 (.o 2 0)).set 5 (.o 3 0)).set 6 (.b g)),[.x [.s 4,.b g1],.x [.s 5,.b g2],.x [.nil,.kb false],.x [.nil,.kb false],.u X,.u Y]⟩:=by
  intro g hg
  rw [hP]
  clear hP hR P R hs4
  intro m4 E4 H4 hs4
  refine cw_seq hG hs4 fun R hR=>?_
  cbv
  refine hR _ ?_
  clear hR R hs4
  intro m4 E4 H4 hs4
  refine cw_seq hG hs4 fun R hR=>?_
  cbv
  refine hR _ ?_
  clear hR R hs4
  intro m4 E4 H4 hs4
  have hs5:=hs4.less (stB X Y g (G.mx (G.lu X) (G.lu Y))).env (by cbv<;>simp)
  obtain ⟨c2,c3⟩:=f2 hs4
  exact bal_tail X Y g (G.mx (G.lu X) (G.lu Y)) hs5 id3 c3 (hlow hs5 c2 c3) aX.1 aY.1 lX lY hw q (hq2 g hg)
 cbv
 refine SX.ite hG (fun h1=>?_) (fun h1=>?_)
 ·exact hR _ (lessP hP _ (by cbv<;>simp) (key g2 (by rw [h1];rfl)))
 ·exact hR _ (lessP hP _ (by cbv<;>simp) (key false (by rw [h1];rfl)))
theorem bwd_r {l m:List Int} (hl:Byt l) (hm:Byt m):1≤bwd l m∧bwd l m≤128:=by
 have h1:=nB_nv hl
 have h2:=nB_nv hm
 have:=h1.len;have:=h2.len;have:=List.length_pos_iff.2 h1.ne
 unfold bwd
 show 1≤max _ _∧max _ _≤_
 omega
theorem bX_nv {l m:List Int} {s t:Bool} (hl:Byt l) (hm:Byt m):NV (bX l s m t):=rsz_nv (nB_nv hl) (bwd_r hl hm).1 (bwd_r hl hm).2
theorem bY_nv {l m:List Int} {s t:Bool} (hl:Byt l) (hm:Byt m):NV (bY l s m t):=rsz_nv (nB_nv hm) (bwd_r hl hm).1 (bwd_r hl hm).2
theorem bX_len {l m:List Int} {s t:Bool}:(bX l s m t).length=bwd l m:=rsz_len
theorem bY_len {l m:List Int} {s t:Bool}:(bY l s m t).length=bwd l m:=rsz_len
def zipW (f:Int→Int→Int) (l m:List Int):List Int:=(List.range l.length).map fun i=>f (gu l (i:Nat)) (gu m (i:Nat))
theorem zipW_len {f:Int→Int→Int} {l m:List Int}:(zipW f l m).length=l.length:=by simp [zipW]
theorem zipW_get {f:Int→Int→Int} {l m:List Int} {i:Nat} (h:i<l.length):gu (zipW f l m) i=f (gu l i) (gu m i):=by
 unfold zipW
 show ((((List.range l.length).map fun i=>f (gu l (i:Nat)) (gu m (i:Nat)))[((i:Nat):Int).toNat]?).getD 0)=_
 rw [Int.toNat_natCast,List.getElem?_map,List.getElem?_range h];rfl
theorem zipW_nv {f:Int→Int→Int} {l m:List Int} (hl:NV l) (hm:NV m) (he:l.length=m.length) (hf4:∀ x y,V4 x→V4 y→V4 (f x y)):NV (zipW f l m):=by
 refine ⟨fun e=>?_,by rw [zipW_len];exact hl.len,fun x hx=>?_⟩
 ·have:=congrArg List.length e
  rw [zipW_len] at this
  exact hl.ne (List.length_eq_zero_iff.1 this)
 ·obtain ⟨i,hi,rfl⟩:=List.mem_map.1 hx
  rw [List.mem_range] at hi
  exact hf4 _ _ (hl.v _ (gu_mem hi)) (hm.v _ (gu_mem (by omega)))
theorem bitwise_ok (l m:List Int) (s t:Bool) (hl:l.length<2^14) (hm:m.length<2^14) (bl:Byt l) (bm:Byt m) (k:Nat) (fs cs:List SV) (f:Int→Int→Int) (hf4:∀ x y,V4 x→V4 y→V4 (f x y)) (hf:∀ x y,V4 x→V4 y→FvC CX TB (.fq k fs cs) [.i .u8 x,.i .u8 y] [] (RI .u8 (f x y))) :
  FvC CX TB (.f 99 [] []) [.a [.u l,.b s],.a [.u m,.b t],.fq k fs cs] [] (RV (zipW f (bX l s m t) (bY l s m t)) (bg l s m t)):=by
 have nX:=bX_nv (s:=s) (t:=t) bl bm
 have nY:=bY_nv (s:=s) (t:=t) bl bm
 have hXY:(bX l s m t).length=(bY l s m t).length:=by rw [bX_len,bY_len]
 refine fn_ok rfl rfl fun B D G hG q hq=>?_
 cbv
 refine call hG [] (balance_ok l m s t hl hm) ⟨rfl,rfl,rfl⟩ ?_
 rintro _ _ ⟨X,Y,g,h,rfl,rfl,hX,hY,hg,hh⟩
 cbv
 rw [←hX] at nX
 rw [←hY] at nY
 rw [←hX,←hY] at hXY
 have hlen:=nX.len
 refine lp hG (α:=Int×List Int) (fun p=>∃ n:Nat,p.1=(n:Int)∧n≤X.length∧p.2.length=X.length∧∀ i:Nat,i<X.length→gu p.2 i=if i<n then f (gu X i) (gu Y i) else gu X i) (fun p=>X.length-p.1.toNat) (fun s p=>(s.put (some 20) (.i .i64 p.1)).setO 3 (.u p.2)) (0,X) ⟨0,rfl,Nat.zero_le _,rfl,by simp⟩ (by constructor<;>cbv<;>simp) ?_
 rintro ⟨j,L⟩ ⟨n,hj,hn,hL,hi⟩
 have hL:L.length=X.length:=hL
 cbv
 have hj:j=(n:Int):=hj
 have hi:∀ i:Nat,i<X.length→gu L i=if i<n then f (gu X i) (gu Y i) else gu X i:=hi
 refine SX.ite hG (fun h3=>?_) (fun h3=>?_)
 ·have h3:n<X.length:=by
   rw [hG,hj] at h3
   have h3:(n:Int)<(Y.length:Int):=of_decide_eq_true h3
   omega
  have v1:G.ix j (G.lu Y):=by rw [hG,hj];show 0≤(n:Int)∧(n:Int)<(Y.length:Int);omega
  have v2:G.ix j (G.lu L):=by rw [hG,hj];show 0≤(n:Int)∧(n:Int)<(L.length:Int);omega
  refine ⟨v1,v1,v2,v2,?_⟩
  have e1:G.gu L j=gu X n:=by rw [hG,hj];show gu L n=_;rw [hi n h3,if_neg (by omega)]
  have e2:G.gu Y j=gu Y n:=by rw [hG,hj];rfl
  have m1:V4 (G.gu L j):=by rw [e1];exact nX.v _ (gu_mem h3)
  have m2:V4 (G.gu Y j):=by rw [e2];exact nY.v _ (gu_mem (by omega))
  refine callQ hG [] (hf _ _ m1 m2) ⟨rfl,rfl,rfl⟩ ?_
  rintro _ _ ⟨c,rfl,rfl,hc⟩
  cbv
  rw [e1,e2] at hc
  have hj:j=(n:Int):=hj
  have hnx:G.su L j c=L.set n (f (gu X n) (gu Y n)):=by rw [hc,hG,hj];rfl
  have hi2:∀ i:Nat,i<X.length→gu (G.su L j c) i=if i<n+1 then f (gu X i) (gu Y i) else gu X i:=fun i hlt=>by
   rw [hnx,gu_set (by omega)]
   split
   ·rename_i e;rw [e,if_pos (by omega)]
   ·rw [hi i hlt]
    by_cases h5:i<n
    ·rw [if_pos h5,if_pos (by omega)]
    ·rw [if_neg h5,if_neg (by omega)]
  refine ⟨v2,v2,okd hG rfl ?_⟩
  exact ⟨(G.ar .add .i64 j (Int.ofNat 1),G.su L j c),⟨n+1,inc hG hj (by omega),h3,by show (G.su _ _ _).length=_;rw [hnx];simp [hL],hi2⟩,mu hj (inc hG hj (by omega)) h3,by constructor<;>cbv<;>simp⟩
 ·have h3:X.length≤n:=by
   rw [hG,hj] at h3
   have h3:¬ (n:Int)<(Y.length:Int):=of_decide_eq_false h3
   omega
  refine hq _ _ ⟨_,_,rfl,rfl,?_,hg⟩
  rw [←hX,←hY]
  refine gu_ext (by rw [hL,zipW_len]) fun i hlt=>?_
  rw [hi i (by omega),if_pos (by omega),zipW_get (by omega)]
theorem RP.nv {l m:List Int} {s t:Bool} (bl:Byt l) (bm:Byt m):NV (bX l s m t)∧NV (bY l s m t)∧(bX l s m t).length=(bY l s m t).length:=⟨bX_nv bl bm,bY_nv bl bm,by rw [bX_len,bY_len]⟩
def bwF (f:Int→Int→Int) (l:List Int) (s:Bool) (m:List Int) (t:Bool):List Int:=zipW f (bX l s m t) (bY l s m t)
section
variable (l m:List Int) (s t:Bool) (hl:l.length<2^14) (hm:m.length<2^14) (bl:Byt l) (bm:Byt m)
include hl hm bl bm
theorem vAnd_ok:FvC CX TB (.f 82 [] []) [.a [.u l,.b s],.a [.u m,.b t]] [] (RV (bwF bAnd l s m t) (bg l s m t)):=by
 refine fn_ok rfl rfl fun B D G hG q hq=>?_
 cbv
 refine call hG [] (bitwise_ok l m s t hl hm bl bm 124 [] [] bAnd bAnd_44 (fun x y hx hy=>fq_ok (bAnd_ok x y hx.1 hy.1))) ⟨rfl,rfl,rfl⟩ ?_
 rintro _ _ ⟨L,g,rfl,rfl,hL,hg⟩
 cbv
 exact hq _ _ ⟨_,_,rfl,rfl,hL,hg⟩
theorem vOr_ok:FvC CX TB (.f 31 [] []) [.a [.u l,.b s],.a [.u m,.b t]] [] (RV (bwF bOr l s m t) (bg l s m t)):=by
 refine fn_ok rfl rfl fun B D G hG q hq=>?_
 cbv
 refine call hG [] (bitwise_ok l m s t hl hm bl bm 97 [] [] bOr bOr_44 (fun x y hx hy=>fq_ok (bOr_ok x y hx.1 hy.1))) ⟨rfl,rfl,rfl⟩ ?_
 rintro _ _ ⟨L,g,rfl,rfl,hL,hg⟩
 cbv
 exact hq _ _ ⟨_,_,rfl,rfl,hL,hg⟩
theorem vXor_ok:FvC CX TB (.f 83 [] []) [.a [.u l,.b s],.a [.u m,.b t]] [] (RV (bwF bXor l s m t) (bg l s m t)):=by
 refine fn_ok rfl rfl fun B D G hG q hq=>?_
 cbv
 refine call hG [] (bitwise_ok l m s t hl hm bl bm 125 [] [] bXor bXor_44 (fun x y hx hy=>fq_ok (bXor_ok x y hx.1 hy.1))) ⟨rfl,rfl,rfl⟩ ?_
 rintro _ _ ⟨L,g,rfl,rfl,hL,hg⟩
 cbv
 exact hq _ _ ⟨_,_,rfl,rfl,hL,hg⟩
theorem vXnor_ok:FvC CX TB (.f 84 [] []) [.a [.u l,.b s],.a [.u m,.b t]] [] (RV (bwF bEq l s m t) (bg l s m t)):=by
 refine fn_ok rfl rfl fun B D G hG q hq=>?_
 cbv
 refine call hG [] (bitwise_ok l m s t hl hm bl bm 150 [] [] bEq bEq_44 (fun x y hx hy=>fq_ok (bEq_ok x y hx.1 hy.1))) ⟨rfl,rfl,rfl⟩ ?_
 rintro _ _ ⟨L,g,rfl,rfl,hL,hg⟩
 cbv
 exact hq _ _ ⟨_,_,rfl,rfl,hL,hg⟩
def eqB (l:List Int) (s:Bool) (m:List Int) (t:Bool):Int:=fld bAnd (bwF bEq l s m t)
end
theorem redAnd_ok (l:List Int) (s:Bool) (hl:l.length<2^15) (hb:Byt l):FvC CX TB (.f 40 [] []) [.a [.u l,.b s]] [] (RV1 (fld bAnd (nB l)) false):=by
 have nv:=nB_nv hb
 refine fn_ok rfl rfl fun B D G hG q hq=>?_
 cbv
 refine call hG [] (norm_ok l s hl) ⟨rfl,rfl,rfl⟩ ?_
 rintro _ _ ⟨L,t,rfl,rfl,hL,ht⟩
 cbv
 have nvL:NV L:=by rw [hL];exact nv
 refine call hG [] (fold_ok L t nvL.ne (by have:=nvL.len;omega) nvL.v 124 [] [] bAnd bAnd_44 (fun x y hx hy=>fq_ok (bAnd_ok x y hx.1 hy.1))) ⟨rfl,rfl,rfl⟩ ?_
 rintro _ _ ⟨c,rfl,rfl,hc⟩
 cbv
 refine call hG [] (single_ok c) ⟨rfl,rfl,rfl⟩ ?_
 rintro _ _ ⟨M,g,rfl,rfl,hM,hg⟩
 cbv
 exact hq _ _ ⟨_,_,rfl,rfl,by rw [hM,hc,hL],hg⟩
theorem fld_4 {f:Int→Int→Int} (hf4:∀ x y,V4 x→V4 y→V4 (f x y)) {l:List Int} (h:NV l):V4 (fld f l):=fold_4 hf4 (bBuf_4 (h.v _ (gu_mem (n:=0) (List.length_pos_iff.2 h.ne))).1) (fun y hy=>h.v y (List.mem_of_mem_drop hy))
end Go.Proofs.YtdgbdkfoeaollaaGreatDoor.V
end
section
set_option linter.unusedSimpArgs false
set_option linter.unusedVariables false
set_option linter.unusedSectionVars false
namespace Go.Proofs.YtdgbdkfoeaollaaGreatDoor.V
open Go Go.AL Go.SX
theorem byt_nv {l:List Int} (h:NV l):Byt l:=fun x hx=>(h.v x hx).1
section
variable (l m:List Int) (s t:Bool) (hl:l.length<2^14) (hm:m.length<2^14) (bl:Byt l) (bm:Byt m)
include hl hm bl bm
theorem veq_ok:FvC CX TB (.f 85 [] []) [.a [.u l,.b s],.a [.u m,.b t]] [] (RV1 (eqB l s m t) false):=by
 have nv:NV (bwF bEq l s m t):=zipW_nv (bX_nv bl bm) (bY_nv bl bm) (by rw [bX_len,bY_len]) bEq_44
 refine fn_ok rfl rfl fun B D G hG q hq=>?_
 cbv
 refine call hG [] (vXnor_ok l m s t hl hm bl bm) ⟨rfl,rfl,rfl⟩ ?_
 rintro _ _ ⟨L,g,rfl,rfl,hL,hg⟩
 cbv
 rw [←hL] at nv
 refine call hG [] (redAnd_ok L g (by have:=nv.len;omega) (byt_nv nv)) ⟨rfl,rfl,rfl⟩ ?_
 rintro _ _ ⟨M,h,rfl,rfl,hM,hh⟩
 cbv
 exact hq _ _ ⟨_,_,rfl,rfl,by rw [hM,nB_id nv,hL];rfl,hh⟩
theorem eqB_4:V4 (eqB l s m t):=fld_4 bAnd_44 (zipW_nv (bX_nv bl bm) (bY_nv bl bm) (by rw [bX_len,bY_len]) bEq_44)
theorem vne_ok:FvC CX TB (.f 54 [] []) [.a [.u l,.b s],.a [.u m,.b t]] [] (RV1 (bNot (eqB l s m t)) false):=by
 have h4:=eqB_4 l m s t hl hm bl bm
 refine fn_ok rfl rfl fun B D G hG q hq=>?_
 cbv
 refine call hG [] (veq_ok l m s t hl hm bl bm) ⟨rfl,rfl,rfl⟩ ?_
 rintro _ _ ⟨L,g,rfl,rfl,hL,hg⟩
 cbv
 rw [←hL] at h4
 refine call hG [] (vnot1_ok L g h4) ⟨rfl,rfl,rfl⟩ ?_
 rintro _ _ ⟨M,h,rfl,rfl,hM,hh⟩
 cbv
 exact hq _ _ ⟨_,_,rfl,rfl,by rw [hM,hL],by rw [hh,hg]⟩
theorem vcaseEq_ok:FvC CX TB (.f 55 [] []) [.a [.u l,.b s],.a [.u m,.b t]] [] (RV1 (ofB (bX l s m t == bY l s m t)) false):=by
 refine fn_ok rfl rfl fun B D G hG q hq=>?_
 cbv
 refine call hG [] (balance_ok l m s t hl hm) ⟨rfl,rfl,rfl⟩ ?_
 rintro _ _ ⟨X,Y,g,h,rfl,rfl,hX,hY,hg,hh⟩
 cbv
 refine call hG [] (equal_ok X Y (by rw [hX];have:=(bX_nv (s:=s) (t:=t) bl bm).len;omega)) ⟨rfl,rfl,rfl⟩ ?_
 rintro _ _ ⟨c,rfl,rfl,hc⟩
 cbv
 refine call hG [] (ofB_ok c) ⟨rfl,rfl,rfl⟩ ?_
 rintro _ _ ⟨d,rfl,rfl,hd⟩
 cbv
 refine call hG [] (single_ok d) ⟨rfl,rfl,rfl⟩ ?_
 rintro _ _ ⟨M,k,rfl,rfl,hM,hk⟩
 cbv
 exact hq _ _ ⟨_,_,rfl,rfl,by rw [hM,hd,hc,hX,hY],hk⟩
end
theorem lnot_ok (l:List Int) (s:Bool) (hl:l.length<2^15) (hb:Byt l):FvC CX TB (.f 46 [] []) [.a [.u l,.b s]] [] (RV1 (bNot (fld bOr (nB l))) false):=by
 have h4:=fld_4 bOr_44 (nB_nv hb)
 refine fn_ok rfl rfl fun B D G hG q hq=>?_
 cbv
 refine call hG [] (truth_ok l s hl hb) ⟨rfl,rfl,rfl⟩ ?_
 rintro _ _ ⟨c,rfl,rfl,hc⟩
 cbv
 refine call hG [] (bNot_ok c (by rw [hc];exact h4.1)) ⟨rfl,rfl,rfl⟩ ?_
 rintro _ _ ⟨d,rfl,rfl,hd⟩
 cbv
 refine call hG [] (single_ok d) ⟨rfl,rfl,rfl⟩ ?_
 rintro _ _ ⟨M,k,rfl,rfl,hM,hk⟩
 cbv
 exact hq _ _ ⟨_,_,rfl,rfl,by rw [hM,hd,hc],hk⟩
theorem land_ok (l m:List Int) (s t:Bool) (hl:l.length<2^15) (hm:m.length<2^15) (bl:Byt l) (bm:Byt m):FvC CX TB (.f 47 [] []) [.a [.u l,.b s],.a [.u m,.b t]] [] (RV1 (bAnd (fld bOr (nB l)) (fld bOr (nB m))) false):=by
 have h4:=fld_4 bOr_44 (nB_nv bl)
 have h5:=fld_4 bOr_44 (nB_nv bm)
 refine fn_ok rfl rfl fun B D G hG q hq=>?_
 cbv
 refine call hG [] (truth_ok l s hl bl) ⟨rfl,rfl,rfl⟩ ?_
 rintro _ _ ⟨c,rfl,rfl,hc⟩
 cbv
 refine call hG [] (truth_ok m t hm bm) ⟨rfl,rfl,rfl⟩ ?_
 rintro _ _ ⟨d,rfl,rfl,hd⟩
 cbv
 refine call hG [] (bAnd_ok c d (by rw [hc];exact h4.1) (by rw [hd];exact h5.1)) ⟨rfl,rfl,rfl⟩ ?_
 rintro _ _ ⟨e,rfl,rfl,he⟩
 cbv
 refine call hG [] (single_ok e) ⟨rfl,rfl,rfl⟩ ?_
 rintro _ _ ⟨M,k,rfl,rfl,hM,hk⟩
 cbv
 refine okd hG rfl (hq _ _ ⟨_,_,rfl,rfl,by rw [hM,he,hd,hc],hk⟩)
theorem lor_ok (l m:List Int) (s t:Bool) (hl:l.length<2^15) (hm:m.length<2^15) (bl:Byt l) (bm:Byt m):FvC CX TB (.f 48 [] []) [.a [.u l,.b s],.a [.u m,.b t]] [] (RV1 (bOr (fld bOr (nB l)) (fld bOr (nB m))) false):=by
 have h4:=fld_4 bOr_44 (nB_nv bl)
 have h5:=fld_4 bOr_44 (nB_nv bm)
 refine fn_ok rfl rfl fun B D G hG q hq=>?_
 cbv
 refine call hG [] (truth_ok l s hl bl) ⟨rfl,rfl,rfl⟩ ?_
 rintro _ _ ⟨c,rfl,rfl,hc⟩
 cbv
 refine call hG [] (truth_ok m t hm bm) ⟨rfl,rfl,rfl⟩ ?_
 rintro _ _ ⟨d,rfl,rfl,hd⟩
 cbv
 refine call hG [] (bOr_ok c d (by rw [hc];exact h4.1) (by rw [hd];exact h5.1)) ⟨rfl,rfl,rfl⟩ ?_
 rintro _ _ ⟨e,rfl,rfl,he⟩
 cbv
 refine call hG [] (single_ok e) ⟨rfl,rfl,rfl⟩ ?_
 rintro _ _ ⟨M,k,rfl,rfl,hM,hk⟩
 cbv
 refine okd hG rfl (hq _ _ ⟨_,_,rfl,rfl,by rw [hM,he,hd,hc],hk⟩)
end Go.Proofs.YtdgbdkfoeaollaaGreatDoor.V
end
section
set_option linter.unusedSimpArgs false
set_option linter.unusedVariables false
namespace Go.Proofs.YtdgbdkfoeaollaaGreatDoor.V
open Go Go.AL Go.SX
theorem mXY {l:List Int} {s:Bool} {m:List Int} {t:Bool}:(bX l s m t).length=(bY l s m t).length:=by rw [bX_len,bY_len]
def B01 (l:List Int):Prop:=∀ x∈l,x=0∨x=1
theorem rsz_01 {l:List Int} {s:Bool} {w:Nat} (h:NV l) (hb:B01 l):B01 (rsz l s w):=by
 intro x hx
 unfold rsz at hx
 split at hx
 ·exact hb x (List.mem_of_mem_take hx)
 ·rcases List.mem_append.1 hx with hx | hx
  ·exact hb x hx
  ·rw [(List.mem_replicate.1 hx).2]
   unfold top
   split
   ·exact hb _ (gu_mem (by have:=List.length_pos_iff.2 h.ne;omega))
   ·exact .inl rfl
theorem gu_ext' {l m:List Int} (h:l.length=m.length):l=m↔∀ i:Nat,i<l.length→gu l i=gu m i:=⟨fun e i _=>by rw [e],gu_ext h⟩
theorem foldA {L:List Int} (h:B01 L):∀ a:Int,a=0∨a=1→L.foldl bAnd a=ofB (a == 1&&L.all (· == 1)):=by
 induction L with
 | nil=>intro a ha;rcases ha with rfl | rfl<;>decide
 | cons x L ih=>
   intro a ha
   have hx:=h x (by simp)
   have hL:B01 L:=fun y hy=>h y (by simp [hy])
   rw [List.foldl_cons,ih hL]
   ·rcases ha with rfl | rfl<;>rcases hx with rfl | rfl<;>simp [bAnd,bpair,bnorm,gu,andsL,ofB]
   ·rcases ha with rfl | rfl<;>rcases hx with rfl | rfl<;>decide
theorem fldA {L:List Int} (h:B01 L) (hne:L≠[]):fld bAnd L=ofB (L.all (· == 1)):=by
 cases L with
 | nil=>exact absurd rfl hne
 | cons x L=>
   have hx:=h x (by simp)
   have hL:B01 L:=fun y hy=>h y (by simp [hy])
   show L.foldl bAnd (bBuf x)=_
   have e:bBuf x=x:=by rcases hx with rfl | rfl<;>decide
   rw [e,foldA hL x hx]
   rfl
theorem eqB_T {l:List Int} {s:Bool} {m:List Int} {t:Bool} (hx:B01 (bX l s m t)) (hy:B01 (bY l s m t)) (hne:bX l s m t≠[]):eqB l s m t=ofB (bX l s m t == bY l s m t):=by
 unfold eqB bwF
 have hb:∀ x y:Int,(x=0∨x=1)→(y=0∨y=1)→bEq x y=ofB (x == y):=by
  intro x y h1 h2
  rcases h1 with rfl | rfl<;>rcases h2 with rfl | rfl<;>decide
 rw [fldA]
 ·congr 1
  rw [Bool.eq_iff_iff,beq_iff_eq,gu_ext' mXY,List.all_eq_true]
  constructor
  ·intro h i hi
   have h1:=hx _ (gu_mem hi)
   have h2:=hy _ (gu_mem (l:=bY l s m t) (by rw [←mXY];exact hi))
   have:=h (bEq (gu (bX l s m t) i) (gu (bY l s m t) i)) (List.mem_map.2 ⟨i,List.mem_range.2 hi,rfl⟩)
   rw [hb _ _ h1 h2] at this
   rcases h1 with h1 | h1<;>rcases h2 with h2 | h2<;>rw [h1,h2] at this ⊢<;>revert this<;>decide
  ·intro h x hx'
   obtain ⟨i,hi,rfl⟩:=List.mem_map.1 hx'
   rw [List.mem_range] at hi
   have h1:=hx _ (gu_mem hi)
   have h2:=hy _ (gu_mem (l:=bY l s m t) (by rw [←mXY];exact hi))
   rw [hb _ _ h1 h2,h i hi]
   simp [ofB]
 ·intro x hx'
  obtain ⟨i,hi,rfl⟩:=List.mem_map.1 hx'
  rw [List.mem_range] at hi
  have h1:=hx _ (gu_mem hi)
  have h2:=hy _ (gu_mem (l:=bY l s m t) (by rw [←mXY];exact hi))
  rw [hb _ _ h1 h2]
  unfold ofB
  split
  ·exact .inr rfl
  ·exact .inl rfl
 ·intro e
  have:=congrArg List.length e
  rw [zipW_len] at this
  exact hne (List.length_eq_zero_iff.1 this)
end Go.Proofs.YtdgbdkfoeaollaaGreatDoor.V
end
section
set_option linter.unusedSimpArgs false
set_option linter.unusedVariables false
namespace Go.Proofs.YtdgbdkfoeaollaaGreatDoor.V
open Go Go.AL Go.SX
theorem kbr {k:Nat} {args:List SV} {ao:List SX.Obj} {p c:Bool} (h:FvC CX TB (.f k [] []) args ao (RB p)) (e:p=c):FvC CX TB (.f k [] []) args ao (fun r ro=>r=.kb c∧ro=[]):=by
 intro H m vf vs h1 h2 h3 h4
 obtain ⟨k',fs,cs,e',hr⟩:=h H m vf vs h1 h2 h3 h4
 refine ⟨k',fs,cs,e',hr.mono ?_⟩
 rintro v H' ⟨m',r,ro,⟨x,rfl,rfl,hx⟩,q1,q2,q3,q4,q5⟩
 exact ⟨m',.kb c,[],⟨rfl,rfl⟩,q1,q2,by rw [hx,e] at q3;exact q3,q4,q5⟩
def dropC:Nat→IC→IC
 | n+1,.seq _ b=>dropC n b
 | _,c=>c
theorem rsame_ok (l m:List Int) (s t:Bool) (hl:l.length<2^20) (hm:m.length<2^20):FvC CX TB (.f 58 [] []) [.a [.u l,.b s],.a [.u m,.b t]] [] (RB (s == t&&l == m)):=by
 refine fn_ok rfl rfl fun B D G hG q hq=>?_
 cbv
 refine SX.ite hG (fun h1=>?_) (fun h1=>?_)
 ·have h1:decide (s≠t)=true:=by rw [hG] at h1;simpa [std,beqS] using h1
  exact hq _ _ ⟨_,rfl,rfl,by have:=of_decide_eq_true h1;symm;simp [this]⟩
 have h1:s=t:=by rw [hG] at h1;simpa [std,beqS] using h1
 refine SX.ite hG (fun h2=>?_) (fun h2=>?_)
 ·have h2:l.length≠m.length:=by have hq_:=h2;simp [hG,std,cmpS,arS,beqS] at hq_;omega
  exact hq _ _ ⟨_,rfl,rfl,by symm;simp;intro _ e;exact h2 (by rw [e])⟩
 have h2:l.length=m.length:=by have hq_:=h2;simp [hG,std,cmpS,arS,beqS] at hq_;omega
 refine lp hG (α:=Int) (fun j=>∃ n:Nat,j=(n:Int)∧n≤l.length∧∀ i:Nat,i<n→gu l i=gu m i) (fun j=>l.length-j.toNat) (fun s j=>s.put (some 5) (.i .i64 j)) 0 ⟨0,rfl,Nat.zero_le _,by simp⟩ (by constructor<;>cbv<;>simp) ?_
 rintro j ⟨n,hj,hn,hi⟩
 cbv
 refine SX.ite hG (fun h3=>?_) (fun h3=>?_)
 ·have h3:n<l.length:=by simpa [hG,std,cmpS,arS,beqS,hj] using h3
  refine ⟨by simp [hG,std,hj,h3],by simp [hG,std,hj];omega,okd hG rfl ?_⟩
  have hgu:G.gu l j=gu l n∧G.gu m j=gu m n:=by rw [hG,hj];exact ⟨rfl,rfl⟩
  refine SX.ite hG (fun h4=>?_) (fun h4=>?_)
  ·have h4:¬ G.gu l j=G.gu m j:=by simpa [hG,std,cmpS,arS,beqS] using h4
   rw [hgu.1,hgu.2] at h4
   exact hq _ _ ⟨_,rfl,rfl,by symm;simp;intro _ e;exact h4 (by rw [e])⟩
  ·have h4:G.gu l j=G.gu m j:=by simpa [hG,std,cmpS,arS,beqS] using h4
   rw [hgu.1,hgu.2] at h4
   exact ⟨G.ar .add .i64 j (Int.ofNat 1),⟨n+1,inc hG hj (by omega),h3,fun i hlt=>by rcases Nat.lt_succ_iff_lt_or_eq.1 hlt with h | rfl;exact hi i h;exact h4⟩,mu hj (inc hG hj (by omega)) h3,by constructor<;>cbv<;>simp⟩
 ·have h3:l.length≤n:=by simpa [hG,std,cmpS,arS,beqS,hj] using h3
  refine hq _ _ ⟨_,rfl,rfl,?_⟩
  symm
  simp only [Bool.and_eq_true,beq_iff_eq]
  exact ⟨h1,gu_ext h2 fun i hlt=>hi i (by omega)⟩
end Go.Proofs.YtdgbdkfoeaollaaGreatDoor.V
end
section
set_option linter.unusedSimpArgs false
set_option linter.unusedVariables false
namespace Go.Proofs.YtdgbdkfoeaollaaGreatDoor.V
open Go Go.AL Go.SX
end Go.Proofs.YtdgbdkfoeaollaaGreatDoor.V
end
section
set_option linter.unusedSimpArgs false
set_option linter.unusedVariables false
namespace Go.Proofs.YtdgbdkfoeaollaaGreatDoor.V
open Go Go.AL Go.SX
end Go.Proofs.YtdgbdkfoeaollaaGreatDoor.V
end
section
set_option linter.unusedSimpArgs false
set_option linter.unusedVariables false
namespace Go.Proofs.YtdgbdkfoeaollaaGreatDoor.V
open Go Go.AL Go.SX
theorem ext0V:X.Ext0 extV:=by
 rintro f ⟨h1,h2⟩
 unfold extV
 rw [if_neg h1,if_neg h2]
theorem rdS_isB {A:Nat→Prop} {H:AH} {v:Value} {l:List Bool} (h:RdS A H v (boolV l)):IsB H v l:=by
 obtain ⟨a,cap,rfl,h2,h3⟩:=h
 have e:(boolV l).length=l.length:=by simp [boolV]
 refine ⟨a,cap,by rw [e],by rw [e] at h2;exact h2,fun hne=>?_⟩
 obtain ⟨ad,rfl,bk,g1,-,g3,g4⟩:=h3 (by simpa [boolV] using hne)
 exact ⟨ad,bk,rfl,g1,g3,fun i b hb=>g4 i _ (by simp [boolV,hb])⟩
theorem isR_rdS {H H':AH} {v:Value} {l:List Bool} (h:IsR H H' v l):RdS (fun id=>Own [] [] id∨id<H.n) H' v (boolV l):=by
 have e:(boolV l).length=l.length:=by simp [boolV]
 rcases h with ⟨rfl,rfl⟩ | ⟨id,off,cap,bk,rfl,hc,h1,h2,h3,h4,h5,h6,h7⟩
 ·exact ⟨none,0,rfl,.inr (Nat.le_refl _),fun h=>absurd rfl h⟩
 ·refine ⟨_,cap,by rw [e],by rw [e];exact hc,fun _=>⟨_,rfl,bk,h2,?_,h3,fun i v hv=>?_⟩⟩
  ·rintro (⟨i,o,w,k1,_⟩ | k)
   ·simp at k1
   ·exact absurd h1 (Nat.not_le.2 k)
  ·simp only [boolV,List.getElem?_map,Option.map_eq_some_iff] at hv
   obtain ⟨b,hb,rfl⟩:=hv
   exact h6 i b hb
theorem frm_ext {H H':AH} (h:AL.Ext H H'):Frm (Own [] []) H H':=⟨h.n,fun id hid _=>h.get id hid,fun x h1 h2 _=>Nat.le_trans (Nat.le_min.2 ⟨h1,h2⟩) h.wl⟩
theorem obs_nil (H:AH):Obs [] [] H:=⟨rfl,fun i o v h=>by simp at h,fun i j o o' v v' id h=>by simp at h⟩
def Cm (H:AH) (Q:SV→List SX.Obj→Prop) (v:Value) (H':AH):Prop:=AL.Ext H H'∧∃ r,Q r []∧Den (fun id=>Own [] [] id∨id<H.n) [] H' r v
theorem br_any {k:Nat} {args:List SV} {Q:SV→List SX.Obj→Prop} (h:∀ H vs,DenL (Own [] []) [] H args vs→Run CX k vs H (Cm H Q)):FvC CX TB (.f k [] []) args [] Q:=by
 intro H m vf vs ho hgl hdf hda
 obtain rfl:m=[]:=List.length_eq_zero_iff.1 ho.len
 simp only [Den,DenL] at hdf
 obtain ⟨vf',vc,rfl,rfl,rfl⟩:=hdf
 refine ⟨k,[],[],rfl,?_⟩
 have e2:([]:List Value)++(vs++[])=vs:=by simp
 rw [e2]
 refine (h H vs hda).mono fun v H' ⟨h1,r,h2,h3⟩=>⟨[],r,[],h2,obs_nil _,rfl,h3,fun id ⟨i,o,w,k1,_⟩=>by simp at k1,frm_ext h1⟩
theorem br1 {k:Nat} {l:List Bool} {Q:SV→List SX.Obj→Prop} (h:∀ H v,IsB H v l→Run CX k [v] H (Cm H Q)):FvC CX TB (.f k [] []) [.bl l] [] Q:=
 br_any fun H vs hd=>by
  obtain ⟨w,ws,rfl,h1,rfl⟩:=hd
  exact h H w (rdS_isB h1)
theorem br2 {k:Nat} {l m:List Bool} {Q:SV→List SX.Obj→Prop} (h:∀ H v w,IsB H v l→IsB H w m→Run CX k [v,w] H (Cm H Q)):FvC CX TB (.f k [] []) [.bl l,.bl m] [] Q:=
 br_any fun H vs hd=>by
  obtain ⟨w,ws,rfl,h1,w',ws',rfl,h2,rfl⟩:=hd
  exact h H w w' (rdS_isB h1) (rdS_isB h2)
theorem bUint_ok (l:List Bool) (hl:l.length<2^20):FvC CX TB (.f 133 [] []) [.bl l] [] (fun r ro=>∃ a b,r=.t [.i .u64 a,.b b]∧ro=[]∧a=(if X.val l<2^64 then ((X.val l:Nat):Int) else 0)∧b=decide (X.val l<2^64)):=
 br1 fun H v hv=>(X.bUint_any ext0V hv (by omega)).mono fun r H' ⟨h1,h2⟩=>by
  subst h2
  refine ⟨h1,?_⟩
  unfold X.uintV
  split
  ·rename_i h;exact ⟨_,⟨_,_,rfl,rfl,rfl,(decide_eq_true h).symm⟩,_,rfl,_,_,rfl,rfl,_,_,rfl,rfl,rfl⟩
  ·rename_i h;exact ⟨_,⟨_,_,rfl,rfl,rfl,(decide_eq_false h).symm⟩,_,rfl,_,_,rfl,rfl,_,_,rfl,rfl,rfl⟩
def fitI (x:Int):Int:=if -(2:Int)^63≤x∧x<(2:Int)^63 then x else 0
def fitB (x:Int):Bool:=decide (-(2:Int)^63≤x∧x<(2:Int)^63)
def RIB (a:Int) (b:Bool) (r:SV) (ro:List SX.Obj):Prop:=∃ a' b',r=.t [.i .i64 a',.b b']∧ro=[]∧a'=a∧b'=b
theorem bInt_ok (l:List Bool) (hl:l.length<2^20):FvC CX TB (.f 132 [] []) [.bl l] [] (RIB (fitI (X.sval l)) (fitB (X.sval l))):=
 br1 fun H v hv=>(X.bInt_any ext0V hv (by omega)).mono fun r H' ⟨h1,h2⟩=>by
  subst h2
  refine ⟨h1,?_⟩
  unfold X.intV
  split
  ·rename_i h;exact ⟨_,⟨_,_,rfl,rfl,(if_pos h).symm,(decide_eq_true h).symm⟩,_,rfl,_,_,rfl,rfl,_,_,rfl,rfl,rfl⟩
  ·rename_i h;exact ⟨_,⟨_,_,rfl,rfl,(if_neg h).symm,(decide_eq_false h).symm⟩,_,rfl,_,_,rfl,rfl,_,_,rfl,rfl,rfl⟩
def vval (l:List Int) (s:Bool):Int:=if s then X.sval (boolL l) else ((X.val (boolL l):Nat):Int)
theorem boolL_len (l:List Int):(boolL l).length=l.length:=by simp [boolL]
theorem vint_ok (l:List Int) (s:Bool) (hl:l.length<2^15) (hb:Byt l):FvC CX TB (.f 59 [] []) [.a [.u l,.b s]] []
  (RIB (if kn (nB l) then fitI (vval (nB l) (nS l s)) else 0) (kn (nB l)&&fitB (vval (nB l) (nS l s)))):=by
 have nv:=nB_nv hb
 refine fn_ok rfl rfl fun B D G hG q hq=>?_
 cbv
 refine call hG [] (norm_ok l s hl) ⟨rfl,rfl,rfl⟩ ?_
 rintro _ _ ⟨M,t,rfl,rfl,hM,ht⟩
 cbv
 have nvM:NV M:=by rw [hM];exact nv
 have hlen:=nvM.len
 rw [←hM,←ht] at hq
 refine call hG [] (vknown_ok M t (by omega)) ⟨rfl,rfl,rfl⟩ ?_
 rintro _ _ ⟨k,rfl,rfl,hk⟩
 cbv
 rw [nB_id nvM] at hk
 rw [←hk] at hq
 refine SX.ite hG (fun h1=>?_) (fun h1=>?_)
 ·have e:k=false:=by rw [hG] at h1;simpa [std] using h1
  exact hq _ _ ⟨_,_,rfl,rfl,by rw [e];rfl,by rw [e];rfl⟩
 have e:k=true:=by rw [hG] at h1;simpa [std] using h1
 rw [e] at hq
 refine SX.ite hG (fun h2=>?_) (fun h2=>?_)
 ·refine call hG [] (bools_ok M t (by omega)) ⟨rfl,rfl,rfl⟩ ?_
  rintro _ _ ⟨L,rfl,rfl,hL⟩
  cbv
  refine call hG [] (bInt_ok L (by rw [hL,boolL_len];omega)) ⟨rfl,rfl,rfl⟩ ?_
  rintro _ _ ⟨a,b,rfl,rfl,ha,hb2⟩
  cbv
  exact hq _ _ ⟨_,_,rfl,rfl,by rw [ha,hL,vval,if_pos h2];rfl,by rw [hb2,hL,vval,if_pos h2];rfl⟩
 refine call hG [] (bools_ok M t (by omega)) ⟨rfl,rfl,rfl⟩ ?_
 rintro _ _ ⟨L,rfl,rfl,hL⟩
 cbv
 refine call hG [] (bUint_ok L (by rw [hL,boolL_len];omega)) ⟨rfl,rfl,rfl⟩ ?_
 rintro _ _ ⟨a,b,rfl,rfl,ha,hb2⟩
 cbv
 have es:vval M t=((X.val (boolL M):Nat):Int):=by rw [vval,if_neg (by rw [h2];simp)]
 have hpos:(0:Int)≤((X.val (boolL M):Nat):Int):=Int.natCast_nonneg _
 rw [es] at hq
 rw [hL] at ha hb2
 generalize X.val (boolL M)=n at *
 refine SX.ite hG (fun h3=>?_) (fun h3=>?_)
 ·have e3:b=false:=by rw [hG] at h3;simpa [std] using h3
  have h4:¬ n<2^64:=of_decide_eq_false (by rw [←hb2,e3])
  have h5:¬ (-(2:Int)^63≤(n:Int)∧(n:Int)<(2:Int)^63):=by omega
  exact hq _ _ ⟨_,_,rfl,rfl,by rw [if_pos rfl,fitI,if_neg h5];rfl,by rw [fitB,decide_eq_false h5];rfl⟩
 have e3:b=true:=by rw [hG] at h3;simpa [std] using h3
 have h4:n<2^64:=of_decide_eq_true (by rw [←hb2,e3])
 rw [if_pos h4] at ha
 refine SX.ite hG (fun h5=>?_) (fun h5=>?_)
 ·have h6:(n:Int) > 9223372036854775807:=by
   rw [hG,ha] at h5
   exact of_decide_eq_true h5
  have h5:¬ (-(2:Int)^63≤(n:Int)∧(n:Int)<(2:Int)^63):=by omega
  exact hq _ _ ⟨_,_,rfl,rfl,by rw [if_pos rfl,fitI,if_neg h5];rfl,by rw [fitB,decide_eq_false h5];rfl⟩
 ·have h6:¬ (n:Int) > 9223372036854775807:=by
   rw [hG,ha] at h5
   exact of_decide_eq_false h5
  have h5:-(2:Int)^63≤(n:Int)∧(n:Int)<(2:Int)^63:=by omega
  have h7:G.cv .i64 a=(n:Int):=by rw [ha,hG];show fwrap .i64 (n:Int)=_;exact X.fw64 h5.1 h5.2
  exact hq _ _ ⟨_,_,rfl,rfl,by rw [if_pos rfl,fitI,if_pos h5];exact h7,by rw [fitB,decide_eq_true h5];rfl⟩
end Go.Proofs.YtdgbdkfoeaollaaGreatDoor.V
end
section
set_option linter.unusedSimpArgs false
set_option linter.unusedVariables false
namespace Go.Proofs.YtdgbdkfoeaollaaGreatDoor.V
open Go Go.AL Go.SX
def I64 (x:Int):Prop:=-9223372036854775808≤x∧x<9223372036854775808
end Go.Proofs.YtdgbdkfoeaollaaGreatDoor.V
end
section
set_option linter.unusedSimpArgs false
set_option linter.unusedVariables false
namespace Go.Proofs.YtdgbdkfoeaollaaGreatDoor.V
open Go Go.AL Go.SX
theorem gu_app {l m:List Int} {i:Nat}:gu (l++m) i=if i<l.length then gu l i else gu m (i-l.length:Nat):=by
 unfold gu
 simp only [Int.toNat_natCast]
 split
 ·rename_i h;rw [List.getElem?_append_left h]
 ·rename_i h;rw [List.getElem?_append_right (by omega)]
theorem val_app:∀ (l m:List Bool),X.val (l++m)=X.val l+2^l.length*X.val m
 | [],m=>by simp [X.val]
 | b::l,m=>by
   rw [List.cons_append]
   simp only [X.val,List.length_cons,val_app l m,Nat.pow_succ]
   rw [Nat.mul_add]
   have:2*(2^l.length*X.val m)=2^l.length*2*X.val m:=by rw [←Nat.mul_assoc,Nat.mul_comm 2]
   omega
theorem val_rf (k:Nat):X.val (List.replicate k false)=0:=by
 induction k with
 | zero=>rfl
 | succ k ih=>rw [List.replicate_succ];simp only [X.val,ih];rfl
theorem val_rt (k:Nat):X.val (List.replicate k true)+1=2^k:=by
 induction k with
 | zero=>rfl
 | succ k ih=>rw [List.replicate_succ,Nat.pow_succ];simp only [X.val];have:true.toNat=1:=rfl;omega
theorem ng_last {l:List Bool} {b:Bool} {k:Nat} (h:0<k):X.ng (l++List.replicate k b)=b:=by
 unfold X.ng X.bx
 rw [List.length_append,List.length_replicate,List.getD_eq_getElem?_getD,List.getElem?_append_right (by omega),List.getElem?_replicate,if_pos (by omega)]
 rfl
theorem sval_ext {l:List Bool} {k:Nat} (hl:0<l.length):X.sval (l++List.replicate k (X.ng l))=X.sval l:=by
 rcases Nat.eq_zero_or_pos k with rfl | hk
 ·simp
 cases h:X.ng l with
 | false=>
   rw [X.sval_pos (ng_last hk),X.sval_pos h,val_app,val_rf,Nat.mul_zero,Nat.add_zero]
 | true=>
   rw [X.sval_neg (ng_last hk),X.sval_neg h,val_app,List.length_append,List.length_replicate,Nat.pow_add]
   have h1:=val_rt k
   rw [←h1,Nat.mul_add,Nat.mul_one]
   generalize 2^l.length*X.val (List.replicate k true)=z
   omega
theorem boolL_rsz {L:List Int} {s:Bool} {w:Nat} (h:¬ w≤L.length):boolL (rsz L s w)=boolL L++List.replicate (w-L.length) (top L s == 1):=by
 unfold rsz boolL
 rw [if_neg h,List.map_append,List.map_replicate]
theorem vval_rsz {L:List Int} {s:Bool} {w:Nat} (hL:NV L) (h:L.length≤w):vval (rsz L s w) s=vval L s:=by
 by_cases h2:w≤L.length
 ·have:w=L.length:=by omega
  subst this
  unfold rsz;rw [if_pos (Nat.le_refl _),List.take_length]
 have hp:=List.length_pos_iff.2 hL.ne
 unfold vval
 rw [boolL_rsz h2]
 cases s with
 | false=>
   rw [if_neg (by simp),if_neg (by simp),val_app]
   have:(top L false == 1)=false:=rfl
   rw [this,val_rf,Nat.mul_zero,Nat.add_zero]
 | true=>
   rw [if_pos rfl,if_pos rfl]
   have:(top L true == 1)=X.ng (boolL L):=by
    unfold top X.ng X.bx
    rw [if_pos rfl,boolL_len,List.getD_eq_getElem?_getD]
    unfold boolL gu
    rw [List.getElem?_map,Int.toNat_natCast,List.getElem?_eq_getElem (by omega)]
    rfl
   rw [this]
   exact sval_ext (by rw [boolL_len];exact hp)
end Go.Proofs.YtdgbdkfoeaollaaGreatDoor.V
end
section
set_option linter.unusedSimpArgs false
set_option linter.unusedVariables false
namespace Go.Proofs.YtdgbdkfoeaollaaGreatDoor.V
open Go Go.AL Go.SX
def RLB (l:List Bool) (b:Bool) (r:SV) (ro:List SX.Obj):Prop:=∃ l' b',r=.t [.bl l',.b b']∧ro=[]∧l'=l∧b'=b
theorem isM_R {H H':AH} {v:Value} {l:List Bool} (h:∃ id,H.n≤id∧IsM H' v l id):IsR H H' v l:=by
 obtain ⟨id,h1,h2⟩:=h
 exact h2.isR h1
def addF (a b:List Bool):List Bool:=X.ofN a.length (X.val a+X.val b)
def subF (a b:List Bool):List Bool:=X.ofN a.length (X.val a+(2^a.length-X.val b % 2^a.length))
def mulF (a b:List Bool):List Bool:=X.ofN a.length (X.val a*X.val b)
def dmQ (s:Bool) (a b:List Bool):List Bool:=if X.val b=0 then [] else if s then X.squo a b else X.ofN a.length (X.val a / X.val b)
def dmR (s:Bool) (a b:List Bool):List Bool:=if X.val b=0 then [] else if s then X.srem a b else X.ofN a.length (X.val a % X.val b)
def dmE (b:List Bool):Int:=if X.val b=0 then 7 else 0
theorem bcmp_ok (a b:List Bool) (ha:a.length<2^20) (hb:b.length<2^20):FvC CX TB (.f 172 [] []) [.bl a,.bl b] [] (RI .i64 (X.cmpN (X.val a) (X.val b))):=
 br2 fun H v w h1 h2=>(X.cmp_any ext0V h1 h2 (by omega) (by omega)).mono fun r H' ⟨h3,h4⟩=>⟨h3,_,⟨_,rfl,rfl,rfl⟩,h4⟩
theorem bscmp_ok (a b:List Bool) (ha:a.length<2^20) (hb:b.length<2^20):FvC CX TB (.f 173 [] []) [.bl a,.bl b] [] (RI .i64 (X.scmpN a b)):=
 br2 fun H v w h1 h2=>(X.scmp_any ext0V h1 h2 (by omega) (by omega)).mono fun r H' ⟨h3,h4⟩=>⟨h3,_,⟨_,rfl,rfl,rfl⟩,h4⟩
theorem ofN_len (n x:Nat):(X.ofN n x).length=n:=X.ofN_length n x
theorem intL_len (l:List Bool):(intL l).length=l.length:=by simp [intL]
def arL (F:List Bool→List Bool→Bool→List Bool) (O:List Bool→List Bool→Bool→Bool) (l:List Int) (s:Bool) (m:List Int) (t:Bool):List Int:=
 if (kn (bX l s m t)&&kn (bY l s m t))&&O (boolL (bX l s m t)) (boolL (bY l s m t)) (bg l s m t) then intL (F (boolL (bX l s m t)) (boolL (bY l s m t)) (bg l s m t)) else List.replicate (bwd l m) 2
section
variable (l m:List Int) (s t:Bool) (hl:l.length<2^14) (hm:m.length<2^14) (bl:Byt l) (bm:Byt m)
include hl hm bl bm
theorem arith_ok (k:Nat) (fs cs:List SV) (F:List Bool→List Bool→Bool→List Bool) (O:List Bool→List Bool→Bool→Bool) (hF:∀ x y g,x.length≤128→O x y g=true→(F x y g).length≤128) (hf:∀ x y g,x.length≤128→y.length≤128→FvC CX TB (.fq k fs cs) [.bl x,.bl y,.b g] [] (RLB (F x y g) (O x y g))) :
  FvC CX TB (.f 112 [] []) [.a [.u l,.b s],.a [.u m,.b t],.fq k fs cs] [] (RV (arL F O l s m t) (bg l s m t)):=by
 have nX:=bX_nv (s:=s) (t:=t) bl bm
 have nY:=bY_nv (s:=s) (t:=t) bl bm
 have hwd:(bX l s m t).length=bwd l m:=bX_len
 refine fn_ok rfl rfl fun B D G hG q hq=>?_
 cbv
 refine call hG [] (balance_ok l m s t hl hm) ⟨rfl,rfl,rfl⟩ ?_
 rintro _ _ ⟨X,Y,g,h,rfl,rfl,hX,hY,hg,hh⟩
 cbv
 unfold arL at hq
 rw [←hX,←hY] at hq
 rw [←hX] at nX hwd
 rw [←hY] at nY
 rw [←hwd] at hq
 have lX:=nX.len
 have lY:=nY.len
 have fin:∀ L g',L=List.replicate (G.lu X).toNat 2→g'=g→((kn X&&kn Y)&&O (boolL X) (boolL Y) (bg l s m t))=false→q (.a [.s 0,.b g']) [.u L]:=fun L g' h1 h2 h3=>by
  rw [h3] at hq
  refine hq _ _ ⟨_,_,rfl,rfl,?_,by rw [h2,hg]⟩
  rw [h1,hG];rfl
 have hfw:0≤G.lu X∧G.lu X<2^15:=by rw [hG];show 0≤((X.length:Nat):Int)∧((X.length:Nat):Int)<2^15;omega
 refine call hG [] (vknown_ok X g (by omega)) ⟨rfl,rfl,rfl⟩ ?_
 rintro _ _ ⟨kx,rfl,rfl,hkx⟩
 cbv
 rw [nB_id nX] at hkx
 refine SX.ite hG (fun h1=>?_) (fun h1=>?_)
 ·rw [h1] at hkx
  refine call hG [] (vknown_ok Y h (by omega)) ⟨rfl,rfl,rfl⟩ ?_
  rintro _ _ ⟨ky,rfl,rfl,hky⟩
  cbv
  rw [nB_id nY] at hky
  refine SX.ite hG (fun h2=>?_) (fun h2=>?_)
  ·rw [h2] at hky
   refine call hG [] (bools_ok X g (by omega)) ⟨rfl,rfl,rfl⟩ ?_
   rintro _ _ ⟨x,rfl,rfl,hx⟩
   cbv
   refine call hG [] (bools_ok Y h (by omega)) ⟨rfl,rfl,rfl⟩ ?_
   rintro _ _ ⟨y,rfl,rfl,hy⟩
   cbv
   have hxl:x.length≤128:=by rw [hx,boolL_len];exact lX
   have hyl:y.length≤128:=by rw [hy,boolL_len];exact lY
   refine callQ hG [] (hf x y g hxl hyl) ⟨rfl,rfl,rfl⟩ ?_
   rintro _ _ ⟨r,o,rfl,rfl,hr,ho⟩
   cbv
   refine okd hG rfl ?_
   rw [hx,hy] at hr ho
   refine SX.ite hG (fun h3=>?_) (fun h3=>?_)
   ·rw [h3] at ho
    have hF2:=hF (boolL X) (boolL Y) g (by rw [boolL_len];exact lX) ho.symm
    rw [←hr] at hF2
    refine call hG [] (vector_ok r g (by omega)) ⟨rfl,rfl,rfl⟩ ?_
    rintro _ _ ⟨Z,z,rfl,rfl,hZ,hz⟩
    cbv
    rw [←hg,←hkx,←hky,←ho] at hq
    exact hq _ _ ⟨_,_,rfl,rfl,by rw [hZ,hr];rfl,hz⟩
   ·rw [h3] at ho
    refine call hG [] (fill_ok (.ofNat 2) (G.lu X) g hfw) ⟨rfl,rfl,rfl⟩ ?_
    rintro _ _ ⟨L,g',rfl,rfl,hL,hg'⟩
    cbv
    exact fin L g' hL hg' (by rw [←hkx,←hky,←hg,←ho];rfl)
  ·rw [h2] at hky
   refine call hG [] (fill_ok (.ofNat 2) (G.lu X) g hfw) ⟨rfl,rfl,rfl⟩ ?_
   rintro _ _ ⟨L,g',rfl,rfl,hL,hg'⟩
   cbv
   exact fin L g' hL hg' (by rw [←hkx,←hky];rfl)
 ·rw [h1] at hkx
  refine call hG [] (fill_ok (.ofNat 2) (G.lu X) g hfw) ⟨rfl,rfl,rfl⟩ ?_
  rintro _ _ ⟨L,g',rfl,rfl,hL,hg'⟩
  cbv
  exact fin L g' hL hg' (by rw [←hkx];rfl)
end
theorem cm_post {H:AH} {Q:SV→List SX.Obj→Prop} {v:Value} {H':AH} (h:Cm H Q v H'):∃ m' r ro,Q r ro∧Obs m' ro H'∧ro.all okO=true∧Den (fun id=>Own m' ro id∨id<H.n) m' H' r v∧(∀ id,Own m' ro id→H.n≤id∨Own [] [] id)∧Frm (Own [] []) H H':=by
 obtain ⟨h1,r,h2,h3⟩:=h
 exact ⟨[],r,[],h2,obs_nil _,rfl,h3,fun id ⟨i,o,w,k1,_⟩=>by simp at k1,frm_ext h1⟩
theorem total1_ok (k:Nat) (x y:List Bool) (g:Bool) (F:List Bool) (hr:∀ H v w,IsB H v x→IsB H w y→Run CX k [v,w] H fun r H'=>AL.Ext H H'∧IsR H H' r F):FvC CX TB (.f 167 [] [.p [.fq k [] []]]) [.bl x,.bl y,.b g] [] (RLB F true):=by
 intro H m vf vs ho hgl hdf hda
 obtain rfl:m=[]:=List.length_eq_zero_iff.1 ho.len
 simp only [Den,DenL] at hdf
 obtain ⟨vf',vc,rfl,rfl,wp,ws,rfl,⟨ad,vs0,rfl,⟨wf,ws1,rfl,⟨vf1,vc1,rfl,rfl,rfl⟩,rfl⟩,bk,b1,b2,b3,b4⟩,rfl⟩:=hdf
 obtain ⟨w1,ws2,rfl,d1,w2,ws3,rfl,d2,w3,ws4,rfl,rfl,rfl⟩:=hda
 have i1:=rdS_isB d1
 have i2:=rdS_isB d2
 have c1:=b4 0 _ rfl
 rw [Nat.add_zero] at c1
 refine ⟨167,[],[.pointer (some ad)],rfl,?_⟩
 have key:Run CX 167 [w1,w2,.bool g,.pointer (some ad)] H (Cm H (RLB F true)):=by
  refine Run.intro (fi:=IR.fi167) rfl (by kernel_rfl) ?_
  unfold IR.fi167
  simp only [envOf_cons,envOf_nil]
  refine Cw.seq (Cw.region ?_)
  iterate 2 (refine Ow.popM rfl ?_;simp only [S0,Nat.reduceEqDiff,Nat.reduceAdd,reduceIte,reduceCtorEq])
  refine Ow.nilM ⟨nofun,?_⟩
  refine Cw.seq (Cw.region ?_)
  (refine Ow.hopM rfl rfl ?_;simp only [S0,Nat.reduceEqDiff,Nat.reduceAdd,reduceIte,reduceCtorEq,b3,c1])
  iterate 2 (refine Ow.popM rfl ?_;simp only [S0,Nat.reduceEqDiff,Nat.reduceAdd,reduceIte,reduceCtorEq])
  refine Ow.callE (R:=fun r H1=>IsR { H with wl:=H.n } H1 r F) (k:=k) (fs:=[]) (cs:=[]) (vs:=[w1,w2]) rfl (by simp only [S0,Nat.reduceEqDiff,Nat.reduceAdd,reduceIte,reduceCtorEq]) (by simp only [S0,Nat.reduceEqDiff,Nat.reduceAdd,reduceIte,reduceCtorEq]) (hr _ _ _ i1.wl i2.wl) ?_
  rintro v H1 z hx1 h1
  iterate 2 (refine Ow.popM rfl ?_;simp only [S0,Nat.reduceEqDiff,Nat.reduceAdd,reduceIte,reduceCtorEq])
  refine Ow.nilM ⟨nofun,?_⟩
  refine Cw.ret ?_
  simp only [Then,InBlock,Rnd,FnPost,resOf,tupled,S0,Nat.reduceEqDiff,Nat.reduceAdd,reduceIte,reduceCtorEq]
  exact ⟨hx1,_,⟨_,_,rfl,rfl,rfl,rfl⟩,_,rfl,_,_,rfl,isR_rdS h1,_,_,rfl,rfl,rfl⟩
 exact key.mono fun v H' h=>cm_post h
theorem divide_any {H:AH} {v w:Value} {x y:List Bool} {s:Bool} (hv:IsB H v x) (hw:IsB H w y) (hx:x.length<2^20) (hy:y.length<2^20) :
  Run CX 116 [v,w,.bool s] H fun r H'=>AL.Ext H H'∧∃ u z,r=.tuple ⟨[u,z,.bool (decide (dmE y=0))]⟩∧IsR H H' u (dmQ s x y)∧IsR H H' z (dmR s x y):=by
 have inner:∀ H,IsB H v x→IsB H w y→Run CX (if s then 171 else 170) [v,w] H fun r H'=>AL.Ext H H'∧∃ u z,r=.tuple ⟨[u,z,.int .i64 (dmE y)]⟩∧IsR H H' u (dmQ s x y)∧IsR H H' z (dmR s x y):=by
  intro H hv hw
  unfold dmQ dmR dmE
  cases s with
  | true=>
    refine (X.sdivmod_any ext0V hv hw (by omega) (by omega)).mono fun r H' ⟨h3,h4⟩=>⟨h3,?_⟩
    by_cases h:X.val y=0
    ·rw [if_pos (X.absN_zero.2 h)] at h4
     simp only [if_pos h]
     exact ⟨_,_,h4,.inl ⟨rfl,rfl⟩,.inl ⟨rfl,rfl⟩⟩
    ·rw [if_neg (fun h'=>h (X.absN_zero.1 h'))] at h4
     simp only [if_neg h]
     obtain ⟨u,z,rfl,hu,hz⟩:=h4
     exact ⟨u,z,rfl,hu,hz⟩
  | false=>
    refine (X.divmod_any ext0V hv hw (by omega) (by omega)).mono fun r H' ⟨h3,h4⟩=>⟨h3,?_⟩
    by_cases h:X.val y=0
    ·rw [if_pos h] at h4
     simp only [if_pos h]
     exact ⟨_,_,h4,.inl ⟨rfl,rfl⟩,.inl ⟨rfl,rfl⟩⟩
    ·rw [if_neg h] at h4
     simp only [if_neg h]
     obtain ⟨u,z,rfl,hu,hz⟩:=h4
     exact ⟨u,z,rfl,isM_R hu,hz⟩
 refine Run.intro (fi:=IR.fi116) rfl (by kernel_rfl) ?_
 unfold IR.fi116
 simp only [envOf_cons,envOf_nil]
 refine Cw.seq (Cw.region ?_)
 iterate 3 (refine Ow.popM rfl ?_;simp only [S0,Nat.reduceEqDiff,Nat.reduceAdd,reduceIte,reduceCtorEq])
 refine Ow.nilM ⟨nofun,?_⟩
 refine Cw.seq (Cw.region ?_)
 (refine Ow.popM rfl ?_;simp only [S0,Nat.reduceEqDiff,Nat.reduceAdd,reduceIte,reduceCtorEq])
 refine Ow.nilM ⟨nofun,?_⟩
 refine Cw.seq (Cw.seq (Cw.region ?_))
 (refine Ow.popM rfl ?_;simp only [S0,Nat.reduceEqDiff,Nat.reduceAdd,reduceIte,reduceCtorEq])
 refine Ow.nilM ⟨nofun,?_⟩
 cases s
 ·refine Cw.cond (t:=false) (by simp only [S0,Nat.reduceEqDiff,Nat.reduceAdd,reduceIte,reduceCtorEq]) ?_
  refine Cw.skip ?_
  show Cw _ _ _ _ _
  refine Cw.seq (Cw.region ?_)
  iterate 3 (refine Ow.popM rfl ?_;simp only [S0,Nat.reduceEqDiff,Nat.reduceAdd,reduceIte,reduceCtorEq])
  refine Ow.callE (R:=fun r H1=>∃ u z,r=.tuple ⟨[u,z,.int .i64 (dmE y)]⟩∧IsR { H with wl:=H.n } H1 u (dmQ _ x y)∧IsR { H with wl:=H.n } H1 z (dmR _ x y)) (k:=170) (fs:=[]) (cs:=[]) (vs:=[v,w]) rfl (by simp only [S0,Nat.reduceEqDiff,Nat.reduceAdd,reduceIte,reduceCtorEq]) (by simp only [S0,Nat.reduceEqDiff,Nat.reduceAdd,reduceIte,reduceCtorEq]) (inner _ hv.wl hw.wl) ?_
  rintro r H1 q hx1 ⟨u,z,rfl,hu,hz⟩
  iterate 7 (refine Ow.popM rfl ?_;simp only [S0,Nat.reduceEqDiff,Nat.reduceAdd,reduceIte,reduceCtorEq,List.getElem?_cons_zero,List.getElem?_cons_succ])
  refine Ow.nilM ⟨nofun,?_⟩
  show Cw _ _ _ _ _
  refine Cw.seq (Cw.region ?_)
  iterate 7 (refine Ow.popM rfl ?_;simp only [S0,Nat.reduceEqDiff,Nat.reduceAdd,reduceIte,reduceCtorEq])
  refine Ow.nilM ⟨nofun,?_⟩
  refine Cw.ret ?_
  simp only [Then,InBlock,Rnd,FnPost,resOf,tupled,S0,Nat.reduceEqDiff,Nat.reduceAdd,reduceIte,reduceCtorEq]
  exact ⟨hx1,_,_,rfl,hu,hz⟩
 ·refine Cw.cond (t:=true) (by simp only [S0,Nat.reduceEqDiff,Nat.reduceAdd,reduceIte,reduceCtorEq]) ?_
  refine Cw.region ?_
  (refine Ow.popM rfl ?_;simp only [S0,Nat.reduceEqDiff,Nat.reduceAdd,reduceIte,reduceCtorEq])
  refine Ow.nilM ⟨nofun,?_⟩
  show Cw _ _ _ _ _
  refine Cw.seq (Cw.region ?_)
  iterate 3 (refine Ow.popM rfl ?_;simp only [S0,Nat.reduceEqDiff,Nat.reduceAdd,reduceIte,reduceCtorEq])
  refine Ow.callE (R:=fun r H1=>∃ u z,r=.tuple ⟨[u,z,.int .i64 (dmE y)]⟩∧IsR { H with wl:=H.n } H1 u (dmQ _ x y)∧IsR { H with wl:=H.n } H1 z (dmR _ x y)) (k:=171) (fs:=[]) (cs:=[]) (vs:=[v,w]) rfl (by simp only [S0,Nat.reduceEqDiff,Nat.reduceAdd,reduceIte,reduceCtorEq]) (by simp only [S0,Nat.reduceEqDiff,Nat.reduceAdd,reduceIte,reduceCtorEq]) (inner _ hv.wl hw.wl) ?_
  rintro r H1 q hx1 ⟨u,z,rfl,hu,hz⟩
  iterate 7 (refine Ow.popM rfl ?_;simp only [S0,Nat.reduceEqDiff,Nat.reduceAdd,reduceIte,reduceCtorEq,List.getElem?_cons_zero,List.getElem?_cons_succ])
  refine Ow.nilM ⟨nofun,?_⟩
  show Cw _ _ _ _ _
  refine Cw.seq (Cw.region ?_)
  iterate 7 (refine Ow.popM rfl ?_;simp only [S0,Nat.reduceEqDiff,Nat.reduceAdd,reduceIte,reduceCtorEq])
  refine Ow.nilM ⟨nofun,?_⟩
  refine Cw.ret ?_
  simp only [Then,InBlock,Rnd,FnPost,resOf,tupled,S0,Nat.reduceEqDiff,Nat.reduceAdd,reduceIte,reduceCtorEq]
  exact ⟨hx1,_,_,rfl,hu,hz⟩
theorem total_ok (k:Nat):FvC CX TB (.f 113 [] []) [.fq k [] []] [] (fun r ro=>r=.f 167 [] [.o 0 0]∧ro=[.x [.fq k [] []]]):=by
 refine fn_ok rfl rfl fun B D G hG q hq=>?_
 cbv
 exact hq _ _ ⟨rfl,rfl⟩
end Go.Proofs.YtdgbdkfoeaollaaGreatDoor.V
end
section
set_option linter.unusedSimpArgs false
set_option linter.unusedVariables false
namespace Go.Proofs.YtdgbdkfoeaollaaGreatDoor.V
open Go Go.AL Go.SX
theorem br3 {k:Nat} {x y:List Bool} {g:Bool} {Q:SV→List SX.Obj→Prop} (h:∀ H v w,IsB H v x→IsB H w y→Run CX k [v,w,.bool g] H (Cm H Q)):FvC CX TB (.f k [] []) [.bl x,.bl y,.b g] [] Q:=
 br_any fun H vs hd=>by
  obtain ⟨w,ws,rfl,h1,w',ws',rfl,h2,w3,ws3,rfl,rfl,rfl⟩:=hd
  exact h H w w' (rdS_isB h1) (rdS_isB h2)
theorem div1_ok (x y:List Bool) (g:Bool) (hx:x.length<2^20) (hy:y.length<2^20):FvC CX TB (.f 115 [] []) [.bl x,.bl y,.b g] [] (RLB (dmQ g x y) (decide (dmE y=0))):=
 br3 fun H v w hv hw=>by
  refine Run.intro (fi:=IR.fi115) rfl (by kernel_rfl) ?_
  unfold IR.fi115
  simp only [envOf_cons,envOf_nil]
  refine Cw.seq (Cw.region ?_)
  iterate 2 (refine Ow.popM rfl ?_;simp only [S0,Nat.reduceEqDiff,Nat.reduceAdd,reduceIte,reduceCtorEq])
  refine Ow.nilM ⟨nofun,?_⟩
  refine Cw.seq (Cw.region ?_)
  iterate 3 (refine Ow.popM rfl ?_;simp only [S0,Nat.reduceEqDiff,Nat.reduceAdd,reduceIte,reduceCtorEq])
  refine Ow.callE (R:=fun r H1=>∃ u z,r=.tuple ⟨[u,z,.bool (decide (dmE y=0))]⟩∧IsR { H with wl:=H.n } H1 u (dmQ g x y)∧IsR { H with wl:=H.n } H1 z (dmR g x y)) (k:=116) (fs:=[]) (cs:=[]) (vs:=[v,w,.bool g]) rfl (by simp only [S0,Nat.reduceEqDiff,Nat.reduceAdd,reduceIte,reduceCtorEq]) (by simp only [S0,Nat.reduceEqDiff,Nat.reduceAdd,reduceIte,reduceCtorEq]) (divide_any hv.wl hw.wl hx hy) ?_
  rintro r H1 q hx1 ⟨u,z,rfl,hu,hz⟩
  iterate 7 (refine Ow.popM rfl ?_;simp only [S0,Nat.reduceEqDiff,Nat.reduceAdd,reduceIte,reduceCtorEq,List.getElem?_cons_zero,List.getElem?_cons_succ])
  refine Ow.nilM ⟨nofun,?_⟩
  show Cw _ _ _ _ _
  refine Cw.seq (Cw.region ?_)
  iterate 4 (refine Ow.popM rfl ?_;simp only [S0,Nat.reduceEqDiff,Nat.reduceAdd,reduceIte,reduceCtorEq])
  refine Ow.nilM ⟨nofun,?_⟩
  refine Cw.ret ?_
  simp only [Then,InBlock,Rnd,FnPost,resOf,tupled,S0,Nat.reduceEqDiff,Nat.reduceAdd,reduceIte,reduceCtorEq]
  exact ⟨hx1,_,⟨_,_,rfl,rfl,rfl,rfl⟩,_,rfl,_,_,rfl,isR_rdS hu,_,_,rfl,rfl,rfl⟩
theorem mod1_ok (x y:List Bool) (g:Bool) (hx:x.length<2^20) (hy:y.length<2^20):FvC CX TB (.f 117 [] []) [.bl x,.bl y,.b g] [] (RLB (dmR g x y) (decide (dmE y=0))):=
 br3 fun H v w hv hw=>by
  refine Run.intro (fi:=IR.fi117) rfl (by kernel_rfl) ?_
  unfold IR.fi117
  simp only [envOf_cons,envOf_nil]
  refine Cw.seq (Cw.region ?_)
  iterate 2 (refine Ow.popM rfl ?_;simp only [S0,Nat.reduceEqDiff,Nat.reduceAdd,reduceIte,reduceCtorEq])
  refine Ow.nilM ⟨nofun,?_⟩
  refine Cw.seq (Cw.region ?_)
  iterate 3 (refine Ow.popM rfl ?_;simp only [S0,Nat.reduceEqDiff,Nat.reduceAdd,reduceIte,reduceCtorEq])
  refine Ow.callE (R:=fun r H1=>∃ u z,r=.tuple ⟨[u,z,.bool (decide (dmE y=0))]⟩∧IsR { H with wl:=H.n } H1 u (dmQ g x y)∧IsR { H with wl:=H.n } H1 z (dmR g x y)) (k:=116) (fs:=[]) (cs:=[]) (vs:=[v,w,.bool g]) rfl (by simp only [S0,Nat.reduceEqDiff,Nat.reduceAdd,reduceIte,reduceCtorEq]) (by simp only [S0,Nat.reduceEqDiff,Nat.reduceAdd,reduceIte,reduceCtorEq]) (divide_any hv.wl hw.wl hx hy) ?_
  rintro r H1 q hx1 ⟨u,z,rfl,hu,hz⟩
  iterate 7 (refine Ow.popM rfl ?_;simp only [S0,Nat.reduceEqDiff,Nat.reduceAdd,reduceIte,reduceCtorEq,List.getElem?_cons_zero,List.getElem?_cons_succ])
  refine Ow.nilM ⟨nofun,?_⟩
  show Cw _ _ _ _ _
  refine Cw.seq (Cw.region ?_)
  iterate 4 (refine Ow.popM rfl ?_;simp only [S0,Nat.reduceEqDiff,Nat.reduceAdd,reduceIte,reduceCtorEq])
  refine Ow.nilM ⟨nofun,?_⟩
  refine Cw.ret ?_
  simp only [Then,InBlock,Rnd,FnPost,resOf,tupled,S0,Nat.reduceEqDiff,Nat.reduceAdd,reduceIte,reduceCtorEq]
  exact ⟨hx1,_,⟨_,_,rfl,rfl,rfl,rfl⟩,_,rfl,_,_,rfl,isR_rdS hz,_,_,rfl,rfl,rfl⟩
theorem dm_len {g:Bool} {x y:List Bool} (h:dmE y=0):(dmQ g x y).length=x.length∧(dmR g x y).length=x.length:=by
 unfold dmE at h
 split at h
 ·cases h
 ·rename_i h1
  unfold dmQ dmR
  rw [if_neg h1,if_neg h1]
  cases g with
  | true=>exact ⟨X.squo_length _ _,X.srem_length _ _⟩
  | false=>exact ⟨ofN_len _ _,ofN_len _ _⟩
section
variable (l m:List Int) (s t:Bool) (hl:l.length<2^14) (hm:m.length<2^14) (bl:Byt l) (bm:Byt m)
include hl hm bl bm
def toL (F:List Bool→List Bool→List Bool) (l:List Int) (s:Bool) (m:List Int) (t:Bool):List Int:=arL (fun x y _=>F x y) (fun _ _ _=>true) l s m t
theorem vadd_ok:FvC CX TB (.f 30 [] []) [.a [.u l,.b s],.a [.u m,.b t]] [] (RV (toL addF l s m t) (bg l s m t)):=by
 refine fn_ok rfl rfl fun B D G hG q hq=>?_
 cbv
 refine call hG [] (total_ok 114) ⟨rfl,rfl,rfl⟩ ?_
 rintro _ _ ⟨rfl,rfl⟩
 cbv
 refine call hG [] (arith_ok l m s t hl hm bl bm 167 [] [.p [.fq 114 [] []]] (fun x y _=>addF x y) (fun _ _ _=>true) (fun x y g h _=>by show (X.ofN _ _).length≤_;rw [ofN_len];exact h) (fun x y g h1 h2=>fq_ok (total1_ok _ x y g _ (fun H v w i1 i2=>(X.add_any ext0V i1 i2 (by omega)).mono fun r H' ⟨h3,h4⟩=>⟨h3,isM_R h4⟩)))) ⟨rfl,rfl,rfl⟩ ?_
 rintro _ _ ⟨L,h,rfl,rfl,hL,hh⟩
 cbv
 exact okd hG rfl (hq _ _ ⟨_,_,rfl,rfl,hL,hh⟩)
theorem vsub_ok:FvC CX TB (.f 80 [] []) [.a [.u l,.b s],.a [.u m,.b t]] [] (RV (toL subF l s m t) (bg l s m t)):=by
 refine fn_ok rfl rfl fun B D G hG q hq=>?_
 cbv
 refine call hG [] (total_ok 148) ⟨rfl,rfl,rfl⟩ ?_
 rintro _ _ ⟨rfl,rfl⟩
 cbv
 refine call hG [] (arith_ok l m s t hl hm bl bm 167 [] [.p [.fq 148 [] []]] (fun x y _=>subF x y) (fun _ _ _=>true) (fun x y g h _=>by show (X.ofN _ _).length≤_;rw [ofN_len];exact h) (fun x y g h1 h2=>fq_ok (total1_ok _ x y g _ (fun H v w i1 i2=>(X.sub_any ext0V i1 i2 (by omega)).mono fun r H' ⟨h3,h4⟩=>⟨h3,isM_R h4⟩)))) ⟨rfl,rfl,rfl⟩ ?_
 rintro _ _ ⟨L,h,rfl,rfl,hL,hh⟩
 cbv
 exact okd hG rfl (hq _ _ ⟨_,_,rfl,rfl,hL,hh⟩)
theorem vmul_ok:FvC CX TB (.f 81 [] []) [.a [.u l,.b s],.a [.u m,.b t]] [] (RV (toL mulF l s m t) (bg l s m t)):=by
 refine fn_ok rfl rfl fun B D G hG q hq=>?_
 cbv
 refine call hG [] (total_ok 149) ⟨rfl,rfl,rfl⟩ ?_
 rintro _ _ ⟨rfl,rfl⟩
 cbv
 refine call hG [] (arith_ok l m s t hl hm bl bm 167 [] [.p [.fq 149 [] []]] (fun x y _=>mulF x y) (fun _ _ _=>true) (fun x y g h _=>by show (X.ofN _ _).length≤_;rw [ofN_len];exact h) (fun x y g h1 h2=>fq_ok (total1_ok _ x y g _ (fun H v w i1 i2=>(X.mul_any ext0V i1 i2 (by omega)).mono fun r H' ⟨h3,h4⟩=>⟨h3,isM_R h4⟩)))) ⟨rfl,rfl,rfl⟩ ?_
 rintro _ _ ⟨L,h,rfl,rfl,hL,hh⟩
 cbv
 exact okd hG rfl (hq _ _ ⟨_,_,rfl,rfl,hL,hh⟩)
def dvO (_ y:List Bool) (_:Bool):Bool:=decide (dmE y=0)
def divL (l:List Int) (s:Bool) (m:List Int) (t:Bool):List Int:=arL (fun x y g=>dmQ g x y) dvO l s m t
def modL (l:List Int) (s:Bool) (m:List Int) (t:Bool):List Int:=arL (fun x y g=>dmR g x y) dvO l s m t
theorem vdiv_ok:FvC CX TB (.f 32 [] []) [.a [.u l,.b s],.a [.u m,.b t]] [] (RV (divL l s m t) (bg l s m t)):=by
 refine fn_ok rfl rfl fun B D G hG q hq=>?_
 cbv
 refine call hG [] (arith_ok l m s t hl hm bl bm 115 [] [] (fun x y g=>dmQ g x y) dvO (fun x y g h ho=>by rw [(dm_len (of_decide_eq_true ho)).1];exact h) (fun x y g h1 h2=>fq_ok (div1_ok x y g (by omega) (by omega)))) ⟨rfl,rfl,rfl⟩ ?_
 rintro _ _ ⟨L,h,rfl,rfl,hL,hh⟩
 cbv
 exact hq _ _ ⟨_,_,rfl,rfl,hL,hh⟩
theorem vmod_ok:FvC CX TB (.f 34 [] []) [.a [.u l,.b s],.a [.u m,.b t]] [] (RV (modL l s m t) (bg l s m t)):=by
 refine fn_ok rfl rfl fun B D G hG q hq=>?_
 cbv
 refine call hG [] (arith_ok l m s t hl hm bl bm 117 [] [] (fun x y g=>dmR g x y) dvO (fun x y g h ho=>by rw [(dm_len (of_decide_eq_true ho)).2];exact h) (fun x y g h1 h2=>fq_ok (mod1_ok x y g (by omega) (by omega)))) ⟨rfl,rfl,rfl⟩ ?_
 rintro _ _ ⟨L,h,rfl,rfl,hL,hh⟩
 cbv
 exact hq _ _ ⟨_,_,rfl,rfl,hL,hh⟩
end
def negL (l:List Int) (s:Bool):List Int:=toL subF (List.replicate (nB l).length 0) (nS l s) (nB l) (nS l s)
theorem byt_rep (n:Nat):Byt (List.replicate n 0):=fun x hx=>by rw [(List.mem_replicate.1 hx).2];exact Int.le_refl 0
theorem vneg_ok (l:List Int) (s:Bool) (hl:l.length<2^15) (hb:Byt l):FvC CX TB (.f 49 [] []) [.a [.u l,.b s]] [] (RV (negL l s) (bg (List.replicate (nB l).length 0) (nS l s) (nB l) (nS l s))):=by
 have nv:=nB_nv hb
 unfold negL
 refine fn_ok rfl rfl fun B D G hG q hq=>?_
 cbv
 refine call hG [] (norm_ok l s hl) ⟨rfl,rfl,rfl⟩ ?_
 rintro _ _ ⟨M,t,rfl,rfl,hM,ht⟩
 cbv
 have nvM:NV M:=by rw [hM];exact nv
 have hlen:=nvM.len
 rw [←hM,←ht] at hq
 refine call hG [] (fill_ok (.ofNat 0) (G.lu M) t (by rw [hG];show 0≤((M.length:Nat):Int)∧((M.length:Nat):Int)<2^15;omega)) ⟨rfl,rfl,rfl⟩ ?_
 rintro _ _ ⟨Z,z,rfl,rfl,hZ,hz⟩
 cbv
 have eZ:Z=List.replicate M.length 0:=by rw [hZ,hG];rfl
 refine call hG [] (vsub_ok Z M z t (by rw [eZ,List.length_replicate];omega) (by omega) (by rw [eZ];exact byt_rep _) (byt_nv nvM)) ⟨rfl,rfl,rfl⟩ ?_
 rintro _ _ ⟨L,h,rfl,rfl,hL,hh⟩
 cbv
 exact okd hG rfl (hq _ _ ⟨_,_,rfl,rfl,by rw [hL,eZ,hz],by rw [hh,eZ,hz]⟩)
end Go.Proofs.YtdgbdkfoeaollaaGreatDoor.V
end
