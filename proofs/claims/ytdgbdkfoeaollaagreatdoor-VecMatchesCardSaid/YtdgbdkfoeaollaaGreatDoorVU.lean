/- Results with error codes in one form; Repeat; below, refines and Long of four vectors. -/
import Derived.Test.YtdgbdkfoeaollaaGreatDoorVG
import Derived.Test.YtdgbdkfoeaollaaGreatDoorALe
import Derived.Test.YtdgbdkfoeaollaaGreatDoorVZe
import Derived.Test.YtdgbdkfoeaollaaGreatDoorVRg
section
set_option linter.unusedSimpArgs false
set_option linter.unusedVariables false
namespace Go.Proofs.YtdgbdkfoeaollaaGreatDoor.V
open Go Go.AL Go.SX
def blwF (x y:Int):Bool:=bLeq (bBuf x) (bBuf y)
end Go.Proofs.YtdgbdkfoeaollaaGreatDoor.V
end
section
set_option linter.unusedSimpArgs false
set_option linter.unusedVariables false
namespace Go.Proofs.YtdgbdkfoeaollaaGreatDoor.V
open Go Go.AL Go.SX
def Rf (l m:List Int):Prop:=l.length=m.length∧∀ i:Nat,i<l.length→bLeq (gu l i) (gu m i)=true
theorem bLeq_refl (x:Int):bLeq x x=true:=by unfold bLeq bSame;simp
theorem bLeq_blw {x y:Int} (hx:V4 x) (hy:V4 y) (h:bLeq x y=true):blwF x y=true:=by
 rcases hx.cases with rfl | rfl | rfl | rfl<;>rcases hy.cases with rfl | rfl | rfl | rfl<;>revert h<;>decide
theorem Rf.refl (l:List Int):Rf l l:=⟨rfl,fun i _=>bLeq_refl _⟩
theorem gu_rsz {l:List Int} {s:Bool} {w i:Nat} (h:i<w):gu (rsz l s w) i=if i<l.length then gu l i else top l s:=by
 unfold rsz
 split
 ·rw [gu_take h,if_pos (by omega)]
 ·rw [gu_app]
  split
  ·rfl
  ·rename_i h2
   unfold gu
   rw [Int.toNat_natCast,List.getElem?_replicate,if_pos (by omega)];rfl
theorem Rf.top {l m:List Int} (h:Rf l m) (hl:l≠[]) (s:Bool):bLeq (top l s) (top m s)=true:=by
 unfold V.top
 split
 ·rw [←h.1];exact h.2 _ (by have:=List.length_pos_iff.2 hl;omega)
 ·exact bLeq_refl _
theorem Rf.rsz {l m:List Int} (h:Rf l m) (hl:l≠[]) (s:Bool) (w:Nat):Rf (rsz l s w) (rsz m s w):=by
 refine ⟨by rw [rsz_len,rsz_len],fun i hi=>?_⟩
 rw [rsz_len] at hi
 rw [gu_rsz hi,gu_rsz hi,←h.1]
 split
 ·exact h.2 i (by assumption)
 ·exact h.top hl s
theorem Rf.app {l m l' m':List Int} (h:Rf l m) (h':Rf l' m'):Rf (l++l') (m++m'):=by
 refine ⟨by rw [List.length_append,List.length_append,h.1,h'.1],fun i hi=>?_⟩
 rw [List.length_append] at hi
 rw [gu_app,gu_app,←h.1]
 split
 ·exact h.2 i (by assumption)
 ·exact h'.2 _ (by omega)
theorem Rf.repL {l m:List Int} (h:Rf l m) (hl:l≠[]) (n:Nat):Rf (repL l n) (repL m n):=by
 refine ⟨by rw [repL_len,repL_len,h.1],fun i hi=>?_⟩
 rw [repL_len] at hi
 rw [repL_get hi,repL_get (by rw [←h.1];exact hi),←h.1]
 exact h.2 _ (Nat.mod_lt _ (List.length_pos_iff.2 hl))
end Go.Proofs.YtdgbdkfoeaollaaGreatDoor.V
end
section
set_option linter.unusedSimpArgs false
set_option linter.unusedVariables false
set_option maxRecDepth 100000
namespace Go.Proofs.YtdgbdkfoeaollaaGreatDoor.V
open Go Go.AL Go.SX
def RB4 (l m:List Int):Prop:=l.length=m.length∧∀ i:Nat,i<l.length→blwF (gu l i) (gu m i)=true
theorem blwF_refl (x:Int):blwF x x=true:=by unfold blwF;exact bLeq_refl _
theorem RB4.refl (l:List Int):RB4 l l:=⟨rfl,fun _ _=>blwF_refl _⟩
theorem Rf.rb {l m:List Int} (h:Rf l m) (hl:NV l) (hm:NV m):RB4 l m:=⟨h.1,fun i hi=>bLeq_blw (hl.v _ (gu_mem hi)) (hm.v _ (gu_mem (by rw [←h.1];exact hi))) (h.2 i hi)⟩
theorem RB4.one {x y:Int} (h:blwF x y=true):RB4 [x] [y]:=⟨rfl,fun i hi=>by
 have:i=0:=by simpa using hi
 subst this;exact h⟩
def Mn2 (f:Int→Int→Int):Prop:=∀ x x' y y',V4 x→V4 x'→V4 y→V4 y'→blwF x x'=true→blwF y y'=true→blwF (f x y) (f x' y')=true
theorem mnNot {x x':Int} (h1:V4 x) (h2:V4 x') (h:blwF x x'=true):blwF (bNot x) (bNot x')=true:=by
 rcases h1.cases with rfl | rfl | rfl | rfl<;>rcases h2.cases with rfl | rfl | rfl | rfl<;>revert h<;>decide
theorem RB4.map {l m:List Int} (hl:NV l) (hm:NV m) (h:RB4 l m):RB4 (l.map bNot) (m.map bNot):=by
 refine ⟨by simp [h.1],fun i hi=>?_⟩
 have hi:i<l.length:=by simpa using hi
 rw [gu_map hi,gu_map (by rw [←h.1];exact hi)]
 exact mnNot (hl.v _ (gu_mem hi)) (hm.v _ (gu_mem (by rw [←h.1];exact hi))) (h.2 i hi)
theorem foldl_mn {f:Int→Int→Int} (hf:Mn2 f) (h4:∀ x y,V4 x→V4 y→V4 (f x y)):∀ {l m:List Int} {a b:Int},V4 a→V4 b→(∀ x∈l,V4 x)→(∀ x∈m,V4 x)→RB4 l m→blwF a b=true→blwF (l.foldl f a) (m.foldl f b)=true
 | [],[],a,b,_,_,_,_,_,h=>h
 | [],y::m,a,b,_,_,_,_,h,_=>by cases h.1
 | x::l,[],a,b,_,_,_,_,h,_=>by cases h.1
 | x::l,y::m,a,b,ha,hb,hl,hm,h,hab=>by
   rw [List.foldl_cons,List.foldl_cons]
   have h0:blwF x y=true:=h.2 0 (by simp)
   refine foldl_mn hf h4 (h4 _ _ ha (hl x (by simp))) (h4 _ _ hb (hm y (by simp))) (fun z hz=>hl z (by simp [hz])) (fun z hz=>hm z (by simp [hz])) ⟨by simpa using h.1,fun i hi=>?_⟩ (hf _ _ _ _ ha hb (hl x (by simp)) (hm y (by simp)) hab h0)
   have:=h.2 (i+1) (by simpa using hi)
   have g:∀ (z:Int) (k:List Int),gu (z::k) ((i+1:Nat):Int)=gu k i:=fun z k=>by unfold gu;rw [Int.toNat_natCast,Int.toNat_natCast,List.getElem?_cons_succ]
   rw [g,g] at this
   exact this
theorem blwBuf {x y:Int} (hx:V4 x) (hy:V4 y) (h:blwF x y=true):blwF (bBuf x) (bBuf y)=true:=by
 rcases hx.cases with rfl | rfl | rfl | rfl<;>rcases hy.cases with rfl | rfl | rfl | rfl<;>revert h<;>decide
theorem RB4.drop {l m:List Int} (h:RB4 l m) (k:Nat):RB4 (l.drop k) (m.drop k):=by
 refine ⟨by rw [List.length_drop,List.length_drop,h.1],fun i hi=>?_⟩
 rw [List.length_drop] at hi
 rw [gu_drop,gu_drop]
 exact h.2 _ (by omega)
theorem RB4.fld {f:Int→Int→Int} (hf:Mn2 f) (h4:∀ x y,V4 x→V4 y→V4 (f x y)) {l m:List Int} (hl:NV l) (hm:NV m) (h:RB4 l m):blwF (fld f l) (fld f m)=true:=by
 have pl:=List.length_pos_iff.2 hl.ne
 have pm:=List.length_pos_iff.2 hm.ne
 have a:=hl.v _ (gu_mem (n:=0) pl)
 have b:=hm.v _ (gu_mem (n:=0) pm)
 exact foldl_mn hf h4 (bBuf_4 a.1) (bBuf_4 b.1) (fun x hx=>hl.v x (List.mem_of_mem_drop hx)) (fun x hx=>hm.v x (List.mem_of_mem_drop hx)) (h.drop 1) (blwBuf a b (h.2 0 pl))
theorem RB4.rsz {l m:List Int} (h:RB4 l m) (hl:l≠[]) (s:Bool) (w:Nat):RB4 (rsz l s w) (rsz m s w):=by
 refine ⟨by rw [rsz_len,rsz_len],fun i hi=>?_⟩
 rw [rsz_len] at hi
 rw [gu_rsz hi,gu_rsz hi,←h.1]
 split
 ·exact h.2 i (by assumption)
 ·unfold top
  split
  ·rw [←h.1];exact h.2 _ (by have:=List.length_pos_iff.2 hl;omega)
  ·exact blwF_refl _
structure Op2 (l l' m m':List Int):Prop where
 nl:NV l
 nl':NV l'
 nm:NV m
 nm':NV m'
 rl:Rf l l'
 rm:Rf m m'
theorem intL_v4 (l:List Bool):∀ x∈intL l,V4 x:=fun x hx=>by
 obtain ⟨b,_,rfl⟩:=List.mem_map.1 hx
 exact ofB_4 b
theorem rep_v4 {n:Nat} {y:Int} (h:V4 y):∀ x∈List.replicate n y,V4 x:=fun x hx=>by rw [(List.mem_replicate.1 hx).2];exact h
theorem v4_2:V4 2:=by constructor<;>decide
theorem arL_v4 {F:List Bool→List Bool→Bool→List Bool} {O:List Bool→List Bool→Bool→Bool} (hF:∀ x y g,O x y g=true→(F x y g).length=x.length) (l m:List Int) (s t:Bool):(arL F O l s m t).length=bwd l m∧∀ x∈arL F O l s m t,V4 x:=by
 unfold arL
 split
 ·rename_i h
  simp only [Bool.and_eq_true] at h
  exact ⟨by rw [intL_len,hF _ _ _ h.2,boolL_len,bX_len],intL_v4 _⟩
 ·exact ⟨List.length_replicate,rep_v4 v4_2⟩
end Go.Proofs.YtdgbdkfoeaollaaGreatDoor.V
end
section
set_option linter.unusedSimpArgs false
set_option linter.unusedVariables false
namespace Go.Proofs.YtdgbdkfoeaollaaGreatDoor.V
open Go Go.AL Go.SX
theorem boolL_intL (l:List Bool):boolL (intL l)=l:=by
 unfold boolL intL
 rw [List.map_map]
 conv=>rhs;rw [←List.map_id l]
 exact List.map_congr_left fun b _=>by cases b<;>rfl
theorem intL_01 (l:List Bool):B01 (intL l):=fun x hx=>by
 obtain ⟨b,_,rfl⟩:=List.mem_map.1 hx
 cases b
 ·exact .inl rfl
 ·exact .inr rfl
theorem intL_boolL {L:List Int} (h:B01 L):intL (boolL L)=L:=by
 unfold boolL intL
 rw [List.map_map]
 conv=>rhs;rw [←List.map_id L]
 exact List.map_congr_left fun x hx=>by rcases h x hx with rfl | rfl<;>rfl
theorem intL_kn (l:List Bool):kn (intL l)=true:=List.all_eq_true.2 fun x hx=>by rcases intL_01 l x hx with rfl | rfl<;>rfl
theorem intL_nv {l:List Bool} (h1:1≤l.length) (h2:l.length≤128):NV (intL l):=
 ⟨by intro e;have:=congrArg List.length e;rw [intL_len] at this;simp at this;rw [this] at h1;simp at h1,by rw [intL_len];exact h2,intL_v4 l⟩
def vv (g:Bool) (l:List Bool):Int:=if g then X.sval l else ((X.val l:Nat):Int)
theorem vval_intL (l:List Bool) (g:Bool):vval (intL l) g=vv g l:=by unfold vval vv;rw [boolL_intL]
theorem self_I (g:Bool) (l:List Bool):l=X.ofI l.length (vv g l):=by
 cases g with
 | false=>show l=X.ofI _ ((X.val l:Nat):Int);rw [X.ofI_nat,X.ofN_val]
 | true=>
   obtain ⟨k,hk⟩:=X.val_sval l
   show l=X.ofI _ (X.sval l)
   rw [show X.ofI l.length (X.sval l)=X.ofI l.length ((X.val l:Nat):Int) from X.ofI_congr (by rw [hk,Int.add_mul_emod_self_left]),X.ofI_nat,X.ofN_val]
def Rng (g:Bool) (w:Nat) (i:Int):Prop:=if g then X.Sg w i else 1≤w∧w≤64∧0≤i∧i<(2:Int)^w
theorem Rng.up {g:Bool} {w W:Nat} {i:Int} (h:Rng g w i) (hw:w≤W) (hW:W≤64):Rng g W i:=by
 cases g with
 | true=>
   obtain ⟨h1,h2,h3,h4⟩:=(show X.Sg w i from h)
   have a:=Nat.pow_le_pow_right (show 0<2 by decide) (show w-1≤W-1 by omega)
   have b:=X.p2 (w-1)
   have c:=X.p2 (W-1)
   exact (show X.Sg W i from ⟨by omega,hW,by omega,by omega⟩)
 | false=>
   obtain ⟨h1,h2,h3,h4⟩:=(show 1≤w∧w≤64∧0≤i∧i<(2:Int)^w from h)
   have a:=Nat.pow_le_pow_right (show 0<2 by decide) hw
   have b:=X.p2 w
   have c:=X.p2 W
   exact (show 1≤W∧W≤64∧0≤i∧i<(2:Int)^W from ⟨by omega,hW,h3,by omega⟩)
theorem vv_zero (g:Bool) (l:List Bool):vv g l=0↔X.val l=0:=by
 cases g with
 | false=>show ((X.val l:Nat):Int)=0↔_;omega
 | true=>
   show X.sval l=0↔_
   rw [←X.absN_zero]
   unfold X.sval
   split<;>omega
structure Two (A B:List Bool):Prop where
 a1:1≤A.length
 a3:A.length≤128
 b1:1≤B.length
 b3:B.length≤128
structure T64 (A B:List Bool):Prop extends Two A B where
 a2:A.length≤64
 b2:B.length≤64
def wd (A B:List Bool):Nat:=Nat.max A.length B.length
section
variable {A B:List Bool} {s t:Bool}
theorem Two.nvA (h:Two A B):NV (intL A):=intL_nv h.a1 h.a3
theorem Two.nvB (h:Two A B):NV (intL B):=intL_nv h.b1 h.b3
theorem T64.wl (h:T64 A B):wd A B≤64:=Nat.max_le.2 ⟨h.a2,h.b2⟩
theorem bwd_I (h:Two A B):bwd (intL A) (intL B)=wd A B:=by unfold bwd wd;rw [nB_id h.nvA,nB_id h.nvB,intL_len,intL_len]
theorem bg_I (h:Two A B):bg (intL A) s (intL B) t=(s&&t):=by unfold bg;rw [nS_id h.nvA,nS_id h.nvB]
theorem rsz_I {A:List Bool} {g:Bool} {w:Nat} (hA:NV (intL A)) (hw:A.length≤w):rsz (intL A) g w=intL (X.ofI w (vv g A)):=by
 have h1:B01 (rsz (intL A) g w):=rsz_01 hA (intL_01 A)
 have h2:=self_I g (boolL (rsz (intL A) g w))
 rw [boolL_len,rsz_len] at h2
 have h3:vv g (boolL (rsz (intL A) g w))=vv g A:=by
  rw [←vval_intL A,←vval_rsz hA (s:=g) (w:=w) (by rw [intL_len];exact hw)];rfl
 have e:boolL (rsz (intL A) g w)=X.ofI w (vv g A):=by rw [←h3];exact h2
 rw [←e,intL_boolL h1]
theorem bX_I (h:Two A B):bX (intL A) s (intL B) t=intL (X.ofI (wd A B) (vv (s&&t) A)):=by
 unfold bX
 rw [nB_id h.nvA,bg_I h,bwd_I h]
 exact rsz_I h.nvA (Nat.le_max_left _ _)
theorem bY_I (h:Two A B):bY (intL A) s (intL B) t=intL (X.ofI (wd A B) (vv (s&&t) B)):=by
 unfold bY
 rw [nB_id h.nvB,bg_I h,bwd_I h]
 exact rsz_I h.nvB (Nat.le_max_right _ _)
theorem ar_I (h:Two A B) {F:List Bool→List Bool→Bool→List Bool} {O:List Bool→List Bool→Bool→Bool} (hO:O (X.ofI (wd A B) (vv (s&&t) A)) (X.ofI (wd A B) (vv (s&&t) B)) (s&&t)=true) :
  arL F O (intL A) s (intL B) t=intL (F (X.ofI (wd A B) (vv (s&&t) A)) (X.ofI (wd A B) (vv (s&&t) B)) (s&&t)):=by
 unfold arL
 rw [bX_I h,bY_I h,bg_I h,intL_kn,intL_kn,boolL_intL,boolL_intL,hO]
 exact if_pos rfl
theorem T64.w1 (h:T64 A B):1≤wd A B:=Nat.le_trans h.a1 (Nat.le_max_left _ _)
theorem cmpN_sign (a b:Nat):(X.cmpN a b<0↔a<b)∧(X.cmpN a b=0↔a=b):=by
 unfold X.cmpN
 split
 ·omega
 ·split<;>omega
end
end Go.Proofs.YtdgbdkfoeaollaaGreatDoor.V
end
section
set_option linter.unusedSimpArgs false
set_option linter.unusedVariables false
set_option maxRecDepth 100000
set_option cbv.maxSteps 4000000
set_option maxHeartbeats 4000000
namespace Go.Proofs.YtdgbdkfoeaollaaGreatDoor.V
open Go Go.AL Go.SX
theorem rbsize_ok (x:List Bool) (hx:x.length<2^20):FvC CX TB (.f 177 [] []) [.bl x] [] (fun r ro=>∃ l',r=.bl l'∧ro=[]∧X.val l'=X.absN x∧l'.length≤x.length+1):=
 br1 fun H v h1=>(X.SizeR_any ext0V h1 (by omega)).mono fun r H' ⟨h3,l,h4,h5,h6⟩=>⟨h3,_,⟨l,rfl,rfl,h5,h6⟩,isR_rdS h4⟩
theorem rbfit_ok (x:List Bool) (n:Nat) (N:Int) (hN:N=(n:Int)) (hn:n<2^20):FvC CX TB (.f 186 [] []) [.bl x,.i .i64 N] [] (RBL (X.ofN n (X.val x))):=
 br_any fun H vs hd=>by
  obtain ⟨w,ws,rfl,h1,w',ws',rfl,h2,rfl⟩:=hd
  subst hN h2
  exact (X.Fit_any ext0V (rdS_isB h1) (by omega)).mono fun r H' ⟨h3,h4⟩=>cm_bl h3 h4.isR
theorem fit_eq (x c:Int) (hc:-1≤c∧c≤1):(fitB x&&fitI x == c)=decide (x=c):=by
 unfold fitB fitI
 by_cases h:-(2:Int)^63≤x∧x<(2:Int)^63
 ·rw [if_pos h,decide_eq_true h,Bool.true_and]
  rw [Bool.eq_iff_iff,beq_iff_eq,decide_eq_true_iff]
 ·rw [decide_eq_false h,Bool.false_and]
  refine (decide_eq_false ?_).symm
  intro e
  exact h (by omega)
def pwS (g:Bool) (x:List Bool):Nat:=if g then X.absN x else X.val x
theorem pwS_vv (g:Bool) (x:List Bool):pwS g x=(vv g x).natAbs:=by
 cases g with
 | false=>rfl
 | true=>
   show X.absN x=(X.sval x).natAbs
   unfold X.sval
   split<;>omega
def pwT (L:List Int) (g:Bool) (M:List Int):List Int:=
 if pwS g (boolL L)=0 then List.replicate L.length 2 else if pwS g (boolL L)≠1 then List.replicate L.length 0 else if gu M 0 == 1 then L else intL (X.ofN L.length 1)
theorem sub_raw {w:Nat} {m n:Int}:X.ofN w (X.val (X.ofI w m)+(2^w-X.val (X.ofI w n) % 2^w))=X.ofI w (m-n):=by
 refine X.eqNI ?_
 rw [Int.natCast_add,X.natSub,X.val_I,X.val_I,Int.emod_emod_of_dvd _ (Int.dvd_refl _)]
 rw [show m % 2^w+(2^w-n % 2^w)=(m % 2^w-n % 2^w)+2^w*1 by omega,Int.add_mul_emod_self_left,←Int.sub_emod]
theorem neg_m1 {A:List Bool} {s:Bool} (h1:1≤A.length) (h2:A.length≤128) (hv:vv s A=-1):negL (intL A) s=intL (X.ofN A.length 1):=by
 have nv:=intL_nv h1 h2
 have hT:Two (List.replicate A.length false) A:=⟨by rw [List.length_replicate];exact h1,by rw [List.length_replicate];exact h2,h1,h2⟩
 have hw:wd (List.replicate A.length false) A=A.length:=by unfold wd;rw [List.length_replicate];exact Nat.max_self _
 unfold negL
 rw [nB_id nv,nS_id nv,show List.replicate (intL A).length (0:Int)=intL (List.replicate A.length false) from by unfold intL;rw [List.map_replicate,List.length_map];rfl]
 unfold toL
 rw [ar_I hT rfl,hw,Bool.and_self,(vv_zero s (List.replicate A.length false)).2 (val_rf _),hv]
 unfold subF
 rw [X.ofI_length,sub_raw]
 rw [show (0:Int) - -1=((1:Nat):Int) from rfl,X.ofI_nat]
theorem pwT_eq {L M:List Int} {g:Bool} (nL:NV L) (kL:kn L=true):(if fitB (vval L g)&&fitI (vval L g) == 0 then List.replicate L.length 2
  else if (fitB (vval L g)&&fitI (vval L g) == 1)||((fitB (vval L g)&&fitI (vval L g) == -1)&&gu M 0 == 1) then L
  else if fitB (vval L g)&&fitI (vval L g) == -1 then negL L g
  else List.replicate L.length 0)=pwT L g M:=by
 rw [fit_eq _ 0 (by decide),fit_eq _ 1 (by decide),fit_eq _ (-1) (by decide)]
 have h01:=kn_01 nL kL
 have eL:=intL_boolL h01
 have ev:vval L g=vv g (boolL L):=rfl
 have pL:=List.length_pos_iff.2 nL.ne
 have lL:=nL.len
 have sI:=self_I g (boolL L)
 rw [boolL_len] at sI
 unfold pwT
 rw [pwS_vv,ev]
 by_cases h0:vv g (boolL L)=0
 ·rw [h0,if_pos (by decide),if_pos (by decide)]
 rw [decide_eq_false h0,if_neg (by decide),if_neg (show ¬ (vv g (boolL L)).natAbs=0 by omega)]
 by_cases h1:vv g (boolL L)=1
 ·rw [h1,decide_eq_true rfl,Bool.true_or,if_pos rfl,if_neg (by decide)]
  split
  ·rfl
  ·rw [h1] at sI
   conv=>lhs;rw [←eL,sI]
   rw [show (1:Int)=((1:Nat):Int) from rfl,X.ofI_nat]
 rw [decide_eq_false h1,Bool.false_or]
 by_cases h2:vv g (boolL L)=-1
 ·rw [h2,if_neg (show ¬ (Int.natAbs (-1)≠1) by decide)]
  cases hm:(gu M 0 == 1) with
  | true=>rw [if_pos (by decide),if_pos rfl]
  | false=>
    rw [if_neg (by decide),if_pos (by decide),if_neg (by decide)]
    have:=neg_m1 (A:=boolL L) (s:=g) (by rw [boolL_len];omega) (by rw [boolL_len];omega) h2
    rwa [eL,boolL_len] at this
 ·rw [decide_eq_false h2,Bool.false_and,if_neg (by decide),if_neg (by decide),if_pos (show (vv g (boolL L)).natAbs≠1 by omega)]
def objW (L M:List Int) (g h:Bool) (x y:List Bool):List SX.Obj:=[.x [.s 3,.b g],.x [.s 4,.b h],.x [.nil,.kb false],.u L,.u M,.b x,.b y]
def stW (L M:List Int) (g h:Bool) (x y:List Bool) (v:SV):SX.St:=⟨(((((T.nil.set 2 (SV.o 0 0)).set 3 (.o 1 0)).set 4 (.o 2 0)).set 5 (.s 5)).set 6 (.s 6)).set 7 v,objW L M g h x y⟩
theorem cmpN_0 {a b:Nat}:X.cmpN a b=0↔a=b:=(cmpN_sign a b).2
theorem rpw_S {B:AH} {d:Nat→Prop} (L M:List Int) (g h:Bool) (x y:List Bool) (S:List Bool) (hsz:X.val S=pwS g (boolL L)) (lS:S.length≤L.length+1) (nL:NV L) (nM:NV M) (hx:x=boolL L) (hy:y=boolL M) (q:SV→List SX.Obj→Prop) (hq:∀ Z z,Z=pwT L g M→z=g→q (.a [.s 0,.b z]) [.u Z]) :
  SWs CX TB B ⟨d,fun _=>none⟩ (dropC 7 IR.fi156.code) (stW L M g h x y (.bl S)) (post [.cell 4 (some 2)] q):=by
 have lL:=nL.len
 have lM:=nM.len
 have pL:=List.length_pos_iff.2 nL.ne
 have pM:=List.length_pos_iff.2 nM.ne
 have lx:x.length=L.length:=by rw [hx,boolL_len]
 have ly:y.length=M.length:=by rw [hy,boolL_len]
 obtain ⟨G,hG⟩:∃ G,G=std CX TB B ⟨d,fun _=>none⟩:=⟨_,rfl⟩
 have hfw:1≤G.lu L∧G.lu L<2^15:=by rw [hG];show 1≤((L.length:Nat):Int)∧((L.length:Nat):Int)<2^15;omega
 have hlu:G.lu L=(L.length:Int):=by rw [hG];rfl
 have hlx:G.lb x=(L.length:Int):=by rw [hG,←lx];rfl
 have gy:G.gb y 0=(gu M 0 == 1):=by
  rw [hG,hy]
  exact gb_map (f:=fun x=>x == 1) (i:=0) pM
 unfold pwT at hq
 rw [←hsz] at hq
 refine sws_W hG ?_
 cbv
 refine callB hG [] (rbcmp_ok S [] (by omega) (by decide)) ⟨rfl,rfl,rfl⟩ ?_
 rintro _ _ ⟨c,rfl,rfl,hc⟩
 cbv
 refine SX.ite hG (fun k1=>?_) (fun k1=>?_)
 ·have k1:c=0:=cmp_t hG k1
  rw [hc] at k1
  have e:X.val S=0:=(cmpN_0.1 k1)
  rw [if_pos e] at hq
  refine call hG [] (rfill_ok (.ofNat 2) (G.lu L) g hfw) ⟨rfl,rfl,rfl⟩ ?_
  rintro _ _ ⟨Z,z,rfl,rfl,hZ,hz⟩
  cbv
  exact hq _ _ (by rw [hZ,hlu];rfl) hz
 have k1:c≠0:=cmp_f hG k1
 rw [hc] at k1
 rw [if_neg (show ¬ X.val S=0 from fun e=>k1 (cmpN_0.2 e))] at hq
 refine call hG [] (rbcmp_ok S [true] (by omega) (by decide)) ⟨rfl,rfl,rfl⟩ ?_
 rintro _ _ ⟨c2,rfl,rfl,hc2⟩
 cbv
 have nn:G.cmp .neq c2 0=!(c2 == 0):=by rw [hG];rfl
 refine SX.ite hG (fun k2=>?_) (fun k2=>?_)
 ·have k2:G.cmp .neq c2 0=true:=k2
  rw [nn] at k2
  have k3:c2≠0:=by simpa using k2
  rw [hc2] at k3
  rw [if_pos (show X.val S≠1 from fun e=>k3 (cmpN_0.2 e))] at hq
  refine call hG [] (rfill_ok (.ofNat 0) (G.lu L) g hfw) ⟨rfl,rfl,rfl⟩ ?_
  rintro _ _ ⟨Z,z,rfl,rfl,hZ,hz⟩
  cbv
  exact hq _ _ (by rw [hZ,hlu];rfl) hz
 have k2:G.cmp .neq c2 0=false:=k2
 rw [nn] at k2
 have k3:c2=0:=by simpa using k2
 rw [hc2] at k3
 rw [if_neg (show ¬ X.val S≠1 from fun e=>e (cmpN_0.1 k3))] at hq
 have v1:G.ix 0 (G.lb y):=by rw [hG];show (0:Int)≤0∧(0:Int)<(y.length:Int);omega
 rw [←gy] at hq
 refine ⟨v1,v1,?_⟩
 refine SX.ite hG (fun k4=>?_) (fun k4=>?_)
 ·have k4:G.gb y 0=true:=k4
  rw [if_pos k4] at hq
  exact hq _ _ rfl rfl
 ·have k4:G.gb y 0=false:=k4
  rw [if_neg (by rw [k4];decide)] at hq
  refine call hG [] (rbfit_ok [true] L.length (G.lb x) hlx (by omega)) ⟨rfl,rfl,rfl⟩ ?_
  rintro _ _ ⟨r,rfl,rfl,hr⟩
  cbv
  refine call hG [] (rfromBools_ok r g (by rw [hr,ofN_len];omega)) ⟨rfl,rfl,rfl⟩ ?_
  rintro _ _ ⟨Z,z,rfl,rfl,hZ,hz⟩
  cbv
  exact okd hG (by kernel_rfl) (hq _ _ (by rw [hZ,hr];rfl) hz)
theorem rpw_N {B:AH} {d:Nat→Prop} (L M:List Int) (g h:Bool) (x y:List Bool) (hg:g=false) (nL:NV L) (nM:NV M) (hx:x=boolL L) (hy:y=boolL M) (q:SV→List SX.Obj→Prop) (hq:∀ Z z,Z=pwT L g M→z=g→q (.a [.s 0,.b z]) [.u Z]) :
  SWs CX TB B ⟨d,fun _=>none⟩ (dropC 7 IR.fi156.code) (stW L M g h x y (.s 5)) (post [.cell 4 (some 2)] q):=by
 have lL:=nL.len
 have lM:=nM.len
 have pL:=List.length_pos_iff.2 nL.ne
 have pM:=List.length_pos_iff.2 nM.ne
 have lx:x.length=L.length:=by rw [hx,boolL_len]
 have ly:y.length=M.length:=by rw [hy,boolL_len]
 have hsz:X.val x=pwS g (boolL L):=by rw [hx,hg];rfl
 obtain ⟨G,hG⟩:∃ G,G=std CX TB B ⟨d,fun _=>none⟩:=⟨_,rfl⟩
 have hfw:1≤G.lu L∧G.lu L<2^15:=by rw [hG];show 1≤((L.length:Nat):Int)∧((L.length:Nat):Int)<2^15;omega
 have hlu:G.lu L=(L.length:Int):=by rw [hG];rfl
 have hlx:G.lb x=(L.length:Int):=by rw [hG,←lx];rfl
 have gy:G.gb y 0=(gu M 0 == 1):=by
  rw [hG,hy]
  exact gb_map (f:=fun x=>x == 1) (i:=0) pM
 unfold pwT at hq
 rw [←hsz] at hq
 refine sws_W hG ?_
 cbv
 refine callB hG [] (rbcmp_ok x [] (by omega) (by decide)) ⟨rfl,rfl,rfl⟩ ?_
 rintro _ _ ⟨c,rfl,rfl,hc⟩
 cbv
 refine SX.ite hG (fun k1=>?_) (fun k1=>?_)
 ·have k1:c=0:=cmp_t hG k1
  rw [hc] at k1
  have e:X.val x=0:=(cmpN_0.1 k1)
  rw [if_pos e] at hq
  refine call hG [] (rfill_ok (.ofNat 2) (G.lu L) g hfw) ⟨rfl,rfl,rfl⟩ ?_
  rintro _ _ ⟨Z,z,rfl,rfl,hZ,hz⟩
  cbv
  exact hq _ _ (by rw [hZ,hlu];rfl) hz
 have k1:c≠0:=cmp_f hG k1
 rw [hc] at k1
 rw [if_neg (show ¬ X.val x=0 from fun e=>k1 (cmpN_0.2 e))] at hq
 refine call hG [] (rbcmp_ok x [true] (by omega) (by decide)) ⟨rfl,rfl,rfl⟩ ?_
 rintro _ _ ⟨c2,rfl,rfl,hc2⟩
 cbv
 have nn:G.cmp .neq c2 0=!(c2 == 0):=by rw [hG];rfl
 refine SX.ite hG (fun k2=>?_) (fun k2=>?_)
 ·have k2:G.cmp .neq c2 0=true:=k2
  rw [nn] at k2
  have k3:c2≠0:=by simpa using k2
  rw [hc2] at k3
  rw [if_pos (show X.val x≠1 from fun e=>k3 (cmpN_0.2 e))] at hq
  refine call hG [] (rfill_ok (.ofNat 0) (G.lu L) g hfw) ⟨rfl,rfl,rfl⟩ ?_
  rintro _ _ ⟨Z,z,rfl,rfl,hZ,hz⟩
  cbv
  exact hq _ _ (by rw [hZ,hlu];rfl) hz
 have k2:G.cmp .neq c2 0=false:=k2
 rw [nn] at k2
 have k3:c2=0:=by simpa using k2
 rw [hc2] at k3
 rw [if_neg (show ¬ X.val x≠1 from fun e=>e (cmpN_0.1 k3))] at hq
 have v1:G.ix 0 (G.lb y):=by rw [hG];show (0:Int)≤0∧(0:Int)<(y.length:Int);omega
 rw [←gy] at hq
 refine ⟨v1,v1,?_⟩
 refine SX.ite hG (fun k4=>?_) (fun k4=>?_)
 ·have k4:G.gb y 0=true:=k4
  rw [if_pos k4] at hq
  exact hq _ _ rfl rfl
 ·have k4:G.gb y 0=false:=k4
  rw [if_neg (by rw [k4];decide)] at hq
  refine call hG [] (rbfit_ok [true] L.length (G.lb x) hlx (by omega)) ⟨rfl,rfl,rfl⟩ ?_
  rintro _ _ ⟨r,rfl,rfl,hr⟩
  cbv
  refine call hG [] (rfromBools_ok r g (by rw [hr,ofN_len];omega)) ⟨rfl,rfl,rfl⟩ ?_
  rintro _ _ ⟨Z,z,rfl,rfl,hZ,hz⟩
  cbv
  exact okd hG (by kernel_rfl) (hq _ _ (by rw [hZ,hr];rfl) hz)
theorem rpower_ok (l m:List Int) (s t:Bool) (hl:l.length<2^14) (hm:m.length<2^14) (bl:Byt l) (bm:Byt m):FvC CX TB (.f 156 [] []) [.a [.u l,.b s],.a [.u m,.b t]] [] (RV (powL l s m t) (nS l s)):=by
 have nvl:=nB_nv bl
 have nvm:=nB_nv bm
 refine fn_sws rfl rfl fun B d q hq0=>?_
 have hq:∀ Z z,Z=powL l s m t→z=nS l s→q (.a [.s 0,.b z]) [.u Z]:=fun Z z h1 h2=>hq0 _ _ ⟨Z,z,rfl,rfl,h1,h2⟩
 clear hq0
 obtain ⟨G,hG⟩:∃ G,G=std CX TB B ⟨d,fun _=>none⟩:=⟨_,rfl⟩
 refine sws_seq hG fun R hR=>?_
 cbv
 refine hR _ ?_
 clear hR R
 refine sws_seq hG fun R hR=>?_
 cbv
 refine call hG [] (rnorm_ok l s (by omega)) ⟨rfl,rfl,rfl⟩ ?_
 rintro _ _ ⟨L,g,rfl,rfl,hL,hg⟩
 cbv
 refine call hG [] (rnorm_ok m t (by omega)) ⟨rfl,rfl,rfl⟩ ?_
 rintro _ _ ⟨M,h,rfl,rfl,hM,hh⟩
 cbv
 refine okd hG (by kernel_rfl) ?_
 refine hR _ ?_
 clear hR R
 have nL:NV L:=by rw [hL];exact nvl
 have nM:NV M:=by rw [hM];exact nvm
 have lL:=nL.len
 have lM:=nM.len
 have pM:=List.length_pos_iff.2 nM.ne
 have pL:=List.length_pos_iff.2 nL.ne
 unfold powL at hq
 rw [←hL,←hM,←hg,←hh] at hq
 clear hL hM hg hh nvl nvm
 have hfw:1≤G.lu L∧G.lu L<2^15:=by rw [hG];show 1≤((L.length:Nat):Int)∧((L.length:Nat):Int)<2^15;omega
 have hlu:G.lu L=(L.length:Int):=by rw [hG];rfl
 have hkL:kn (nB L)=kn L:=by rw [nB_id nL]
 have hkM:kn (nB M)=kn M:=by rw [nB_id nM]
 rw [←hkL,←hkM] at hq
 refine sws_seq hG fun R hR=>?_
 cbv
 cases kl:kn (nB L) with
 | false=>
   refine call hG [] (kbr (c:=false) (rknown4_ok L g (by omega) (byt_nv nL)) kl) ⟨rfl,rfl,rfl⟩ ?_
   rintro _ _ ⟨rfl,rfl⟩
   cbv
   refine call hG [] (rfill_ok (.ofNat 2) (G.lu L) g hfw) ⟨rfl,rfl,rfl⟩ ?_
   rintro _ _ ⟨Z,z,rfl,rfl,hZ,hz⟩
   cbv
   exact hq _ _ (by rw [hZ,hlu,kl];rfl) hz
 | true=>
   refine call hG [] (kbr (c:=true) (rknown4_ok L g (by omega) (byt_nv nL)) kl) ⟨rfl,rfl,rfl⟩ ?_
   rintro _ _ ⟨rfl,rfl⟩
   cbv
   cases km:kn (nB M) with
   | false=>
     refine call hG [] (kbr (c:=false) (rknown4_ok M h (by omega) (byt_nv nM)) km) ⟨rfl,rfl,rfl⟩ ?_
     rintro _ _ ⟨rfl,rfl⟩
     cbv
     refine call hG [] (rfill_ok (.ofNat 2) (G.lu L) g hfw) ⟨rfl,rfl,rfl⟩ ?_
     rintro _ _ ⟨Z,z,rfl,rfl,hZ,hz⟩
     cbv
     exact hq _ _ (by rw [hZ,hlu,kl,km];rfl) hz
   | true=>
     refine call hG [] (kbr (c:=true) (rknown4_ok M h (by omega) (byt_nv nM)) km) ⟨rfl,rfl,rfl⟩ ?_
     rintro _ _ ⟨rfl,rfl⟩
     cbv
     rw [kl,km,if_neg (by decide)] at hq
     refine hR _ ?_
     clear hR R
     refine sws_seq hG fun R hR=>?_
     cbv
     refine call hG [] (rbools_ok L g nL.ne (by omega)) ⟨rfl,rfl,rfl⟩ ?_
     rintro _ _ ⟨x,rfl,rfl,hx⟩
     cbv
     refine call hG [] (rbools_ok M h nM.ne (by omega)) ⟨rfl,rfl,rfl⟩ ?_
     rintro _ _ ⟨y,rfl,rfl,hy⟩
     cbv
     refine okd hG (by kernel_rfl) ?_
     refine hR _ ?_
     clear hR R
     have lx:x.length=L.length:=by rw [hx,boolL_len]
     have ly:y.length=M.length:=by rw [hy,boolL_len]
     have pw:∀ P:Prop,(!h||gu M (M.length-1:Nat) == 0)=true→(∀ r g',r=powF x y→g'=g→q (.a [.s 0,.b g']) [.u (intL r)]):=fun P e r g' h1 h2=>by
      rw [if_pos e] at hq
      exact hq _ _ (by rw [h1,hx,hy]) h2
     have eng:X.bx y (y.length-1)=!(gu M (M.length-1:Nat) == 0):=by
      have h01:=kn_01 nM (by rw [←hkM,km])
      have h2:=h01 _ (gu_mem (l:=M) (n:=M.length-1) (by omega))
      have h3:gb (boolL M) (M.length-1:Nat)=(gu M (M.length-1:Nat) == 1):=gb_map (f:=fun x=>x == 1) (i:=M.length-1) (by omega)
      have h4:gb (boolL M) (M.length-1:Nat)=X.bx (boolL M) (M.length-1):=by unfold gb X.bx;rw [Int.toNat_natCast,List.getD_eq_getElem?_getD]
      rw [hy,boolL_len,←h4,h3]
      rcases h2 with h2 | h2<;>rw [h2]<;>rfl
     refine sws_seq hG fun R hR=>?_
     cbv
     refine SX.ite hG (fun k1=>?_) (fun k1=>?_)
     ·have e:(!h||gu M (M.length-1:Nat) == 0)=true:=by
       have k1:G.ng h=true:=k1
       rw [hG] at k1
       have k1:(!h)=true:=k1
       rw [k1];rfl
      refine call hG [] (rbpow_ok x y (by omega) (by omega)) ⟨rfl,rfl,rfl⟩ ?_
      rintro _ _ ⟨r,rfl,rfl,hr⟩
      cbv
      refine call hG [] (rfromBools_ok r g (by rw [hr];show (X.ofN _ _).length<_;rw [ofN_len];omega)) ⟨rfl,rfl,rfl⟩ ?_
      rintro _ _ ⟨Z,z,rfl,rfl,hZ,hz⟩
      cbv
      exact okd hG (by kernel_rfl) (by subst hZ;exact pw True e _ _ hr hz)
     have k1:h=true:=by
      have k1:G.ng h=false:=k1
      rw [hG] at k1
      have k1:(!h)=false:=k1
      simpa using k1
     cases k2:X.bx y (y.length-1) with
     | false=>
       have e:(!h||gu M (M.length-1:Nat) == 0)=true:=by
        rw [k2] at eng
        have:(gu M (M.length-1:Nat) == 0)=true:=by simpa using eng.symm
        rw [this,Bool.or_true]
       refine call hG [] (kbr (c:=false) (rbNeg_ok y (by omega)) k2) ⟨rfl,rfl,rfl⟩ ?_
       rintro _ _ ⟨rfl,rfl⟩
       cbv
       refine call hG [] (rbpow_ok x y (by omega) (by omega)) ⟨rfl,rfl,rfl⟩ ?_
       rintro _ _ ⟨r,rfl,rfl,hr⟩
       cbv
       refine call hG [] (rfromBools_ok r g (by rw [hr];show (X.ofN _ _).length<_;rw [ofN_len];omega)) ⟨rfl,rfl,rfl⟩ ?_
       rintro _ _ ⟨Z,z,rfl,rfl,hZ,hz⟩
       cbv
       exact okd hG (by kernel_rfl) (by subst hZ;exact pw True e _ _ hr hz)
     | true=>
       refine call hG [] (kbr (c:=true) (rbNeg_ok y (by omega)) k2) ⟨rfl,rfl,rfl⟩ ?_
       rintro _ _ ⟨rfl,rfl⟩
       cbv
       have e:(!h||gu M (M.length-1:Nat) == 0)=false:=by
        rw [k2] at eng
        have:(gu M (M.length-1:Nat) == 0)=false:=by simpa using eng.symm
        rw [this,k1];rfl
       rw [e,if_neg (by decide),pwT_eq nL (by rw [←hkL,kl])] at hq
       refine hR _ ?_
       clear hR R
       refine sws_seq hG fun R hR=>?_
       cbv
       refine hR _ ?_
       clear hR R
       refine sws_seq hG fun R hR=>?_
       cbv
       refine SX.ite hG (fun k3=>?_) (fun k3=>?_)
       ·refine call hG [] (rbsize_ok x (by omega)) ⟨rfl,rfl,rfl⟩ ?_
        rintro _ _ ⟨S,rfl,rfl,hS,lS⟩
        cbv
        exact hR _ (sws_le (s':=stW L M g h x y (.bl S)) (by constructor<;>cbv<;>simp) (rpw_S L M g h x y S (by rw [hS,hx,k3];rfl) (by omega) nL nM hx hy q hq))
       ·exact hR _ (sws_le (s':=stW L M g h x y (.s 5)) (by constructor<;>cbv<;>simp) (rpw_N L M g h x y k3 nL nM hx hy q hq))
end Go.Proofs.YtdgbdkfoeaollaaGreatDoor.V
end
section
set_option linter.unusedSimpArgs false
set_option linter.unusedVariables false
set_option maxRecDepth 100000
set_option cbv.maxSteps 4000000
set_option maxHeartbeats 4000000
namespace Go.Proofs.YtdgbdkfoeaollaaGreatDoor.V
open Go Go.AL Go.SX
theorem rbin_pow (op:Int) (hop:op=26) (l m:List Int) (s t:Bool) (hl:l.length<2^14) (hm:m.length<2^14) (bl:Byt l) (bm:Byt m):FvC CX TB (.f 89 [] []) [.i .u8 op,.a [.u l,.b s],.a [.u m,.b t]] [] (RV (powL l s m t) (nS l s)):=by
 refine fn_ok rfl rfl fun B D G hG q hq=>?_
 cbv
 refine SX.ite hG (fun k1=>?_) (fun k1=>?_)
 ·refine call hG [] (rpower_ok l m s t hl hm bl bm) ⟨rfl,rfl,rfl⟩ ?_
  rintro _ _ ⟨Z,z,rfl,rfl,hZ,hz⟩
  cbv
  exact hq _ _ ⟨_,_,rfl,rfl,hZ,hz⟩
 exact absurd hop ((show op≠26 from cmp_f hG k1))
theorem rbin_shift (op:Int) (hop:op=41∨op=42∨op=43∨op=44) (l m:List Int) (s t:Bool) (hl:l.length<2^14) (hm:m.length<2^14) (bl:Byt l) (bm:Byt m):FvC CX TB (.f 89 [] []) [.i .u8 op,.a [.u l,.b s],.a [.u m,.b t]] [] (RV (shL (shD op) (shQ op) l s m) (nS l s)):=by
 refine fn_ok rfl rfl fun B D G hG q hq=>?_
 cbv
 refine SX.ite hG (fun k1=>?_) (fun k1=>?_)
 ·exact absurd (show op=26 from cmp_t hG k1) (by omega)
 refine SX.ite hG (fun k2=>?_) (fun k2=>?_)
 ·refine call hG [] (rshift_ok op l m s t hl hm bl bm) ⟨rfl,rfl,rfl⟩ ?_
  rintro _ _ ⟨Z,z,rfl,rfl,hZ,hz⟩
  cbv
  exact hq _ _ ⟨_,_,rfl,rfl,hZ,hz⟩
 refine SX.ite hG (fun k3=>?_) (fun k3=>?_)
 ·refine call hG [] (rshift_ok op l m s t hl hm bl bm) ⟨rfl,rfl,rfl⟩ ?_
  rintro _ _ ⟨Z,z,rfl,rfl,hZ,hz⟩
  cbv
  exact hq _ _ ⟨_,_,rfl,rfl,hZ,hz⟩
 refine SX.ite hG (fun k4=>?_) (fun k4=>?_)
 ·refine call hG [] (rshift_ok op l m s t hl hm bl bm) ⟨rfl,rfl,rfl⟩ ?_
  rintro _ _ ⟨Z,z,rfl,rfl,hZ,hz⟩
  cbv
  exact hq _ _ ⟨_,_,rfl,rfl,hZ,hz⟩
 refine SX.ite hG (fun k5=>?_) (fun k5=>?_)
 ·refine call hG [] (rshift_ok op l m s t hl hm bl bm) ⟨rfl,rfl,rfl⟩ ?_
  rintro _ _ ⟨Z,z,rfl,rfl,hZ,hz⟩
  cbv
  exact hq _ _ ⟨_,_,rfl,rfl,hZ,hz⟩
 exact absurd hop (by have a:=(show op≠41 from cmp_f hG k2);have b:=(show op≠42 from cmp_f hG k3);have c:=(show op≠43 from cmp_f hG k4);have d:=(show op≠44 from cmp_f hG k5);omega)
theorem rbin_land (op:Int) (hop:op=35) (l m:List Int) (s t:Bool) (hl:l.length<2^14) (hm:m.length<2^14) (bl:Byt l) (bm:Byt m):FvC CX TB (.f 89 [] []) [.i .u8 op,.a [.u l,.b s],.a [.u m,.b t]] [] (RV [bAnd (fld bOr (nB l)) (fld bOr (nB m))] false):=by
 refine fn_ok rfl rfl fun B D G hG q hq=>?_
 cbv
 refine SX.ite hG (fun k1=>?_) (fun k1=>?_)
 ·exact absurd (show op=26 from cmp_t hG k1) (by omega)
 refine SX.ite hG (fun k2=>?_) (fun k2=>?_)
 ·exact absurd (show op=41 from cmp_t hG k2) (by omega)
 refine SX.ite hG (fun k3=>?_) (fun k3=>?_)
 ·exact absurd (show op=42 from cmp_t hG k3) (by omega)
 refine SX.ite hG (fun k4=>?_) (fun k4=>?_)
 ·exact absurd (show op=43 from cmp_t hG k4) (by omega)
 refine SX.ite hG (fun k5=>?_) (fun k5=>?_)
 ·exact absurd (show op=44 from cmp_t hG k5) (by omega)
 refine SX.ite hG (fun k6=>?_) (fun k6=>?_)
 ·refine call hG [] (rtruth_ok l s (by omega) bl) ⟨rfl,rfl,rfl⟩ ?_
  rintro _ _ ⟨x,rfl,rfl,hx⟩
  cbv
  refine call hG [] (rtruth_ok m t (by omega) bm) ⟨rfl,rfl,rfl⟩ ?_
  rintro _ _ ⟨y,rfl,rfl,hy⟩
  cbv
  refine call hG [] (rAnd_ok x y (by rw [hx];exact fld_4 bOr_44 (nB_nv bl)) (by rw [hy];exact fld_4 bOr_44 (nB_nv bm))) ⟨rfl,rfl,rfl⟩ ?_
  rintro _ _ ⟨c,rfl,rfl,hc⟩
  cbv
  refine call hG [] (rsingle_ok c) ⟨rfl,rfl,rfl⟩ ?_
  rintro _ _ ⟨Z,z,rfl,rfl,hZ,hz⟩
  cbv
  exact okd hG (by kernel_rfl) (hq _ _ ⟨_,_,rfl,rfl,by rw [hZ,hc,hx,hy],hz⟩)
 exact absurd hop ((show op≠35 from cmp_f hG k6))
theorem rbin_lor (op:Int) (hop:op=36) (l m:List Int) (s t:Bool) (hl:l.length<2^14) (hm:m.length<2^14) (bl:Byt l) (bm:Byt m):FvC CX TB (.f 89 [] []) [.i .u8 op,.a [.u l,.b s],.a [.u m,.b t]] [] (RV [bOr (fld bOr (nB l)) (fld bOr (nB m))] false):=by
 refine fn_ok rfl rfl fun B D G hG q hq=>?_
 cbv
 refine SX.ite hG (fun k1=>?_) (fun k1=>?_)
 ·exact absurd (show op=26 from cmp_t hG k1) (by omega)
 refine SX.ite hG (fun k2=>?_) (fun k2=>?_)
 ·exact absurd (show op=41 from cmp_t hG k2) (by omega)
 refine SX.ite hG (fun k3=>?_) (fun k3=>?_)
 ·exact absurd (show op=42 from cmp_t hG k3) (by omega)
 refine SX.ite hG (fun k4=>?_) (fun k4=>?_)
 ·exact absurd (show op=43 from cmp_t hG k4) (by omega)
 refine SX.ite hG (fun k5=>?_) (fun k5=>?_)
 ·exact absurd (show op=44 from cmp_t hG k5) (by omega)
 refine SX.ite hG (fun k6=>?_) (fun k6=>?_)
 ·exact absurd (show op=35 from cmp_t hG k6) (by omega)
 refine SX.ite hG (fun k7=>?_) (fun k7=>?_)
 ·refine call hG [] (rtruth_ok l s (by omega) bl) ⟨rfl,rfl,rfl⟩ ?_
  rintro _ _ ⟨x,rfl,rfl,hx⟩
  cbv
  refine call hG [] (rtruth_ok m t (by omega) bm) ⟨rfl,rfl,rfl⟩ ?_
  rintro _ _ ⟨y,rfl,rfl,hy⟩
  cbv
  refine call hG [] (rOr_ok x y (by rw [hx];exact fld_4 bOr_44 (nB_nv bl)) (by rw [hy];exact fld_4 bOr_44 (nB_nv bm))) ⟨rfl,rfl,rfl⟩ ?_
  rintro _ _ ⟨c,rfl,rfl,hc⟩
  cbv
  refine call hG [] (rsingle_ok c) ⟨rfl,rfl,rfl⟩ ?_
  rintro _ _ ⟨Z,z,rfl,rfl,hZ,hz⟩
  cbv
  exact okd hG (by kernel_rfl) (hq _ _ ⟨_,_,rfl,rfl,by rw [hZ,hc,hx,hy],hz⟩)
 exact absurd hop ((show op≠36 from cmp_f hG k7))
theorem rbin_pair (op:Int) (hop:op=37∨op=38∨op=39∨op=40) (l m:List Int) (s t:Bool) (hl:l.length<2^14) (hm:m.length<2^14) (bl:Byt l) (bm:Byt m):FvC CX TB (.f 89 [] []) [.i .u8 op,.a [.u l,.b s],.a [.u m,.b t]] [] (RV (bwF (pwF op) l s m t) (bg l s m t)):=by
 refine fn_ok rfl rfl fun B D G hG q hq=>?_
 cbv
 refine SX.ite hG (fun k1=>?_) (fun k1=>?_)
 ·exact absurd (show op=26 from cmp_t hG k1) (by omega)
 refine SX.ite hG (fun k2=>?_) (fun k2=>?_)
 ·exact absurd (show op=41 from cmp_t hG k2) (by omega)
 refine SX.ite hG (fun k3=>?_) (fun k3=>?_)
 ·exact absurd (show op=42 from cmp_t hG k3) (by omega)
 refine SX.ite hG (fun k4=>?_) (fun k4=>?_)
 ·exact absurd (show op=43 from cmp_t hG k4) (by omega)
 refine SX.ite hG (fun k5=>?_) (fun k5=>?_)
 ·exact absurd (show op=44 from cmp_t hG k5) (by omega)
 refine SX.ite hG (fun k6=>?_) (fun k6=>?_)
 ·exact absurd (show op=35 from cmp_t hG k6) (by omega)
 refine SX.ite hG (fun k7=>?_) (fun k7=>?_)
 ·exact absurd (show op=36 from cmp_t hG k7) (by omega)
 refine call hG [] (rbalance_ok l m s t hl hm bl bm) ⟨rfl,rfl,rfl⟩ ?_
 rintro _ _ ⟨X,Y,g,h,rfl,rfl,hX,hY,hg,hh⟩
 cbv
 have nX:NV X:=by rw [hX];exact bX_nv bl bm
 have nY:NV Y:=by rw [hY];exact bY_nv bl bm
 have eXY:X.length=Y.length:=by rw [hX,hY];exact mXY
 have egh:h=g:=by rw [hg,hh]
 subst egh
 refine SX.ite hG (fun k8=>?_) (fun k8=>?_)
 ·refine call hG [3] (rpair_ok op X Y h h nX nY eXY) ⟨rfl,rfl,rfl⟩ ?_
  rintro _ _ ⟨Z,z,rfl,rfl,hZ,hz⟩
  cbv
  exact hq _ _ ⟨_,_,rfl,rfl,by rw [hZ,hX,hY];rfl,by rw [hz,hg]⟩
 refine SX.ite hG (fun k9=>?_) (fun k9=>?_)
 ·refine call hG [3] (rpair_ok op X Y h h nX nY eXY) ⟨rfl,rfl,rfl⟩ ?_
  rintro _ _ ⟨Z,z,rfl,rfl,hZ,hz⟩
  cbv
  exact hq _ _ ⟨_,_,rfl,rfl,by rw [hZ,hX,hY];rfl,by rw [hz,hg]⟩
 refine SX.ite hG (fun k10=>?_) (fun k10=>?_)
 ·refine call hG [3] (rpair_ok op X Y h h nX nY eXY) ⟨rfl,rfl,rfl⟩ ?_
  rintro _ _ ⟨Z,z,rfl,rfl,hZ,hz⟩
  cbv
  exact hq _ _ ⟨_,_,rfl,rfl,by rw [hZ,hX,hY];rfl,by rw [hz,hg]⟩
 refine SX.ite hG (fun k11=>?_) (fun k11=>?_)
 ·refine call hG [3] (rpair_ok op X Y h h nX nY eXY) ⟨rfl,rfl,rfl⟩ ?_
  rintro _ _ ⟨Z,z,rfl,rfl,hZ,hz⟩
  cbv
  exact hq _ _ ⟨_,_,rfl,rfl,by rw [hZ,hX,hY];rfl,by rw [hz,hg]⟩
 exact absurd hop (by have a:=(show op≠37 from cmp_f hG k8);have b:=(show op≠38 from cmp_f hG k9);have c:=(show op≠39 from cmp_f hG k10);have d:=(show op≠40 from cmp_f hG k11);omega)
theorem rbin_ar (op:Int) (hop:op=21∨op=22∨op=23∨op=24∨op=25) (l m:List Int) (s t:Bool) (hl:l.length<2^14) (hm:m.length<2^14) (bl:Byt l) (bm:Byt m):FvC CX TB (.f 89 [] []) [.i .u8 op,.a [.u l,.b s],.a [.u m,.b t]] [] (RV (arR op (bX l s m t) (bY l s m t) (bg l s m t)) (bg l s m t)):=by
 refine fn_ok rfl rfl fun B D G hG q hq=>?_
 cbv
 refine SX.ite hG (fun k1=>?_) (fun k1=>?_)
 ·exact absurd (show op=26 from cmp_t hG k1) (by omega)
 refine SX.ite hG (fun k2=>?_) (fun k2=>?_)
 ·exact absurd (show op=41 from cmp_t hG k2) (by omega)
 refine SX.ite hG (fun k3=>?_) (fun k3=>?_)
 ·exact absurd (show op=42 from cmp_t hG k3) (by omega)
 refine SX.ite hG (fun k4=>?_) (fun k4=>?_)
 ·exact absurd (show op=43 from cmp_t hG k4) (by omega)
 refine SX.ite hG (fun k5=>?_) (fun k5=>?_)
 ·exact absurd (show op=44 from cmp_t hG k5) (by omega)
 refine SX.ite hG (fun k6=>?_) (fun k6=>?_)
 ·exact absurd (show op=35 from cmp_t hG k6) (by omega)
 refine SX.ite hG (fun k7=>?_) (fun k7=>?_)
 ·exact absurd (show op=36 from cmp_t hG k7) (by omega)
 refine call hG [] (rbalance_ok l m s t hl hm bl bm) ⟨rfl,rfl,rfl⟩ ?_
 rintro _ _ ⟨X,Y,g,h,rfl,rfl,hX,hY,hg,hh⟩
 cbv
 have nX:NV X:=by rw [hX];exact bX_nv bl bm
 have nY:NV Y:=by rw [hY];exact bY_nv bl bm
 have eXY:X.length=Y.length:=by rw [hX,hY];exact mXY
 have egh:h=g:=by rw [hg,hh]
 subst egh
 refine SX.ite hG (fun k8=>?_) (fun k8=>?_)
 ·exact absurd (show op=37 from cmp_t hG k8) (by omega)
 refine SX.ite hG (fun k9=>?_) (fun k9=>?_)
 ·exact absurd (show op=38 from cmp_t hG k9) (by omega)
 refine SX.ite hG (fun k10=>?_) (fun k10=>?_)
 ·exact absurd (show op=39 from cmp_t hG k10) (by omega)
 refine SX.ite hG (fun k11=>?_) (fun k11=>?_)
 ·exact absurd (show op=40 from cmp_t hG k11) (by omega)
 refine SX.ite hG (fun k12=>?_) (fun k12=>?_)
 ·refine call hG [] (rarith_ok op X Y h nX nY) ⟨rfl,rfl,rfl⟩ ?_
  rintro _ _ ⟨Z,z,rfl,rfl,hZ,hz⟩
  cbv
  exact hq _ _ ⟨_,_,rfl,rfl,by rw [hZ,hX,hY,hg],by rw [hz,hg]⟩
 refine SX.ite hG (fun k13=>?_) (fun k13=>?_)
 ·refine call hG [] (rarith_ok op X Y h nX nY) ⟨rfl,rfl,rfl⟩ ?_
  rintro _ _ ⟨Z,z,rfl,rfl,hZ,hz⟩
  cbv
  exact hq _ _ ⟨_,_,rfl,rfl,by rw [hZ,hX,hY,hg],by rw [hz,hg]⟩
 refine SX.ite hG (fun k14=>?_) (fun k14=>?_)
 ·refine call hG [] (rarith_ok op X Y h nX nY) ⟨rfl,rfl,rfl⟩ ?_
  rintro _ _ ⟨Z,z,rfl,rfl,hZ,hz⟩
  cbv
  exact hq _ _ ⟨_,_,rfl,rfl,by rw [hZ,hX,hY,hg],by rw [hz,hg]⟩
 refine SX.ite hG (fun k15=>?_) (fun k15=>?_)
 ·refine call hG [] (rarith_ok op X Y h nX nY) ⟨rfl,rfl,rfl⟩ ?_
  rintro _ _ ⟨Z,z,rfl,rfl,hZ,hz⟩
  cbv
  exact hq _ _ ⟨_,_,rfl,rfl,by rw [hZ,hX,hY,hg],by rw [hz,hg]⟩
 refine SX.ite hG (fun k16=>?_) (fun k16=>?_)
 ·refine call hG [] (rarith_ok op X Y h nX nY) ⟨rfl,rfl,rfl⟩ ?_
  rintro _ _ ⟨Z,z,rfl,rfl,hZ,hz⟩
  cbv
  exact hq _ _ ⟨_,_,rfl,rfl,by rw [hZ,hX,hY,hg],by rw [hz,hg]⟩
 exact absurd hop (by have a:=(show op≠21 from cmp_f hG k12);have b:=(show op≠22 from cmp_f hG k13);have c:=(show op≠23 from cmp_f hG k14);have d:=(show op≠24 from cmp_f hG k15);have e:=(show op≠25 from cmp_f hG k16);omega)
theorem rbin_cmp (op:Int) (hop:27≤op∧op≤34) (l m:List Int) (s t:Bool) (hl:l.length<2^14) (hm:m.length<2^14) (bl:Byt l) (bm:Byt m):FvC CX TB (.f 89 [] []) [.i .u8 op,.a [.u l,.b s],.a [.u m,.b t]] [] (RV [rcpL op (bX l s m t) (bY l s m t) (bg l s m t)] false):=by
 refine fn_ok rfl rfl fun B D G hG q hq=>?_
 cbv
 refine SX.ite hG (fun k1=>?_) (fun k1=>?_)
 ·exact absurd (show op=26 from cmp_t hG k1) (by omega)
 refine SX.ite hG (fun k2=>?_) (fun k2=>?_)
 ·exact absurd (show op=41 from cmp_t hG k2) (by omega)
 refine SX.ite hG (fun k3=>?_) (fun k3=>?_)
 ·exact absurd (show op=42 from cmp_t hG k3) (by omega)
 refine SX.ite hG (fun k4=>?_) (fun k4=>?_)
 ·exact absurd (show op=43 from cmp_t hG k4) (by omega)
 refine SX.ite hG (fun k5=>?_) (fun k5=>?_)
 ·exact absurd (show op=44 from cmp_t hG k5) (by omega)
 refine SX.ite hG (fun k6=>?_) (fun k6=>?_)
 ·exact absurd (show op=35 from cmp_t hG k6) (by omega)
 refine SX.ite hG (fun k7=>?_) (fun k7=>?_)
 ·exact absurd (show op=36 from cmp_t hG k7) (by omega)
 refine call hG [] (rbalance_ok l m s t hl hm bl bm) ⟨rfl,rfl,rfl⟩ ?_
 rintro _ _ ⟨X,Y,g,h,rfl,rfl,hX,hY,hg,hh⟩
 cbv
 have nX:NV X:=by rw [hX];exact bX_nv bl bm
 have nY:NV Y:=by rw [hY];exact bY_nv bl bm
 have eXY:X.length=Y.length:=by rw [hX,hY];exact mXY
 have egh:h=g:=by rw [hg,hh]
 subst egh
 refine SX.ite hG (fun k8=>?_) (fun k8=>?_)
 ·exact absurd (show op=37 from cmp_t hG k8) (by omega)
 refine SX.ite hG (fun k9=>?_) (fun k9=>?_)
 ·exact absurd (show op=38 from cmp_t hG k9) (by omega)
 refine SX.ite hG (fun k10=>?_) (fun k10=>?_)
 ·exact absurd (show op=39 from cmp_t hG k10) (by omega)
 refine SX.ite hG (fun k11=>?_) (fun k11=>?_)
 ·exact absurd (show op=40 from cmp_t hG k11) (by omega)
 refine SX.ite hG (fun k12=>?_) (fun k12=>?_)
 ·exact absurd (show op=21 from cmp_t hG k12) (by omega)
 refine SX.ite hG (fun k13=>?_) (fun k13=>?_)
 ·exact absurd (show op=22 from cmp_t hG k13) (by omega)
 refine SX.ite hG (fun k14=>?_) (fun k14=>?_)
 ·exact absurd (show op=23 from cmp_t hG k14) (by omega)
 refine SX.ite hG (fun k15=>?_) (fun k15=>?_)
 ·exact absurd (show op=24 from cmp_t hG k15) (by omega)
 refine SX.ite hG (fun k16=>?_) (fun k16=>?_)
 ·exact absurd (show op=25 from cmp_t hG k16) (by omega)
 refine call hG [] (rcompare_ok op X Y h nX nY eXY) ⟨rfl,rfl,rfl⟩ ?_
 rintro _ _ ⟨c,rfl,rfl,hc⟩
 cbv
 refine call hG [] (rsingle_ok c) ⟨rfl,rfl,rfl⟩ ?_
 rintro _ _ ⟨Z,z,rfl,rfl,hZ,hz⟩
 cbv
 exact hq _ _ ⟨_,_,rfl,rfl,by rw [hZ,hc,hX,hY,hg],hz⟩
end Go.Proofs.YtdgbdkfoeaollaaGreatDoor.V
end
section
set_option linter.unusedSimpArgs false
set_option linter.unusedVariables false
set_option maxRecDepth 100000
set_option cbv.maxSteps 4000000
set_option maxHeartbeats 4000000
namespace Go.Proofs.YtdgbdkfoeaollaaGreatDoor.V
open Go Go.AL Go.SX
theorem take_fold {f:Int→Int→Int} {L:List Int} {n:Nat} (h1:1≤n) (h:n<L.length) (a:Int):((L.take (n+1)).drop 1).foldl f a=f (((L.take n).drop 1).foldl f a) (gu L n):=by
 rw [take_succ_gu h,List.drop_append_of_le_length (by rw [List.length_take];omega),List.foldl_append];rfl
theorem fold_t4 {f:Int→Int→Int} (hf:∀ x y,V4 x→V4 y→V4 (f x y)) {L:List Int} (hL:NV L) (n:Nat):V4 (((L.take n).drop 1).foldl f (bBuf (gu L 0))):=
 fold_4 hf (bBuf_4 (hL.v _ (gu_mem (n:=0) (List.length_pos_iff.2 hL.ne))).1) fun y hy=>hL.v y (List.mem_of_mem_take (List.mem_of_mem_drop hy))
def stU (op:Int) (L:List Int) (g:Bool) (a b c:Int):SX.St:=⟨(((((T.nil.set 0 (SV.i .u8 op)).set 3 (.o 0 0)).set 4 (.o 1 0)).set 5 (.i .u8 a)).set 6 (.i .u8 b)).set 7 (.i .u8 c),[.x [.s 2,.b g],.x [.nil,.kb false],.u L]⟩
def stV (L:List Int) (g:Bool):SX.St:=⟨(T.nil.set 3 (SV.o 0 0)).set 4 (.o 1 0),[.x [.s 2,.b g],.x [.nil,.kb false],.u L]⟩
theorem run_not {B:AH} {d:Nat→Prop} (L:List Int) (g:Bool) (nL:NV L) (q:SV→List SX.Obj→Prop) (hq:∀ Z z,Z=L.map bNot→z=g→q (.a [.s 0,.b z]) [.u Z]) :
  SWs CX TB B ⟨d,fun _=>none⟩ (dropC 5 IR.fi88.code) (stV L g) (post [.cell 4 (some 2)] q):=by
 have lL:=nL.len
 obtain ⟨G,hG⟩:∃ G,G=std CX TB B ⟨d,fun _=>none⟩:=⟨_,rfl⟩
 refine sws_W hG ?_
 cbv
 refine lp hG (α:=Int×List Int) (fun p=>∃ n:Nat,p.1=(n:Int)∧n≤L.length∧p.2.length=L.length∧∀ i:Nat,i<L.length→gu p.2 i=if i<n then bNot (gu L i) else gu L i) (fun p=>L.length-p.1.toNat) (fun s p=>(s.put (some 9) (.i .i64 p.1)).setO 2 (.u p.2)) (0,L) ⟨0,rfl,Nat.zero_le _,rfl,by simp⟩ (by constructor<;>cbv<;>simp) ?_
 rintro ⟨j,W⟩ ⟨n,hj,hn,hW,hi⟩
 have hW:W.length=L.length:=hW
 cbv
 have hj:j=(n:Int):=hj
 have hi:∀ i:Nat,i<L.length→gu W i=if i<n then bNot (gu L i) else gu L i:=hi
 refine SX.ite hG (fun h3=>?_) (fun h3=>?_)
 ·have h3:n<L.length:=by
   rw [hG,hj] at h3
   have h3:(n:Int)<(W.length:Int):=of_decide_eq_true h3
   omega
  have v1:G.ix j (G.lu W):=by rw [hG,hj];show 0≤(n:Int)∧(n:Int)<(W.length:Int);omega
  have e1:G.gu W j=gu L n:=by rw [hG,hj];show gu W n=_;rw [hi n h3,if_neg (by omega)]
  refine ⟨v1,v1,?_⟩
  refine call hG [] (rNot_ok (G.gu W j) (by rw [e1];exact nL.v _ (gu_mem h3))) ⟨rfl,rfl,rfl⟩ ?_
  rintro _ _ ⟨c,rfl,rfl,hc⟩
  cbv
  have hj:j=(n:Int):=hj
  refine ⟨v1,v1,okd hG (by kernel_rfl) ?_⟩
  have hnx:G.su W j c=W.set n (bNot (gu L n)):=by rw [hc,e1,hG,hj];rfl
  have nx:∀ i:Nat,i<L.length→gu (G.su W j c) i=if i<n+1 then bNot (gu L i) else gu L i:=fun i hlt=>by
   rw [hnx,gu_set (by omega)]
   split
   ·rename_i e;rw [e,if_pos (by omega)]
   ·rw [hi i hlt]
    by_cases h5:i<n
    ·rw [if_pos h5,if_pos (by omega)]
    ·rw [if_neg h5,if_neg (by omega)]
  exact ⟨(G.ar .add .i64 j (Int.ofNat 1),G.su W j c),⟨n+1,inc hG hj (by omega),h3,by rw [hnx,List.length_set,hW],nx⟩,mu hj (inc hG hj (by omega)) h3,by constructor<;>cbv<;>simp⟩
 ·have h3:L.length≤n:=by
   rw [hG,hj] at h3
   have h3:¬ (n:Int)<(W.length:Int):=of_decide_eq_false h3
   omega
  refine hq _ _ ?_ rfl
  refine gu_ext (by rw [hW,List.length_map]) fun i hlt=>?_
  rw [hi i (by omega),if_pos (by omega),gu_map (by omega)]
def unL (op:Int) (L:List Int) (g:Bool):List Int:=
 if op=12 then arR 22 (bX (List.replicate L.length 0) g L g) (bY (List.replicate L.length 0) g L g) (bg (List.replicate L.length 0) g L g) else if op=13 then [bNot (fld bOr L)] else if op=15 then [fld bAnd L] else if op=16 then [fld bOr L] else if op=17 then [fld bXor L]
 else if op=18 then [bNot (fld bAnd L)] else if op=19 then [bNot (fld bOr L)] else if op=20 then [bNot (fld bXor L)] else L.map bNot
def unS (op:Int) (g:Bool):Bool:=if op=12 then g else if op=13 then false else if op=15 then false else if op=16 then false else if op=17 then false else if op=18 then false else if op=19 then false else if op=20 then false else g
theorem run_tail {B:AH} {d:Nat→Prop} (op:Int) (L:List Int) (g:Bool) (a b c:Int) (nL:NV L) (ha:a=fld bAnd L) (hb:b=fld bOr L) (hc:c=fld bXor L) (q:SV→List SX.Obj→Prop) (hq:∀ Z z,Z=unL op L g→z=unS op g→q (.a [.s 0,.b z]) [.u Z]) :
  SWs CX TB B ⟨d,fun _=>none⟩ (dropC 4 IR.fi88.code) (stU op L g a b c) (post [.cell 4 (some 2)] q):=by
 have lL:=nL.len
 have pL:=List.length_pos_iff.2 nL.ne
 have a4:V4 a:=by rw [ha];exact fld_4 bAnd_44 nL
 have b4:V4 b:=by rw [hb];exact fld_4 bOr_44 nL
 have c4:V4 c:=by rw [hc];exact fld_4 bXor_44 nL
 obtain ⟨G,hG⟩:∃ G,G=std CX TB B ⟨d,fun _=>none⟩:=⟨_,rfl⟩
 have hfw:1≤G.lu L∧G.lu L<2^15:=by rw [hG];show 1≤((L.length:Nat):Int)∧((L.length:Nat):Int)<2^15;omega
 have hlu:(G.lu L).toNat=L.length:=by rw [hG];rfl
 unfold unL unS at hq
 refine sws_seq hG fun R hR=>?_
 cbv
 refine SX.ite hG (fun k1=>?_) (fun k1=>?_)
 ·have k1:op=12:=cmp_t hG k1
  rw [if_pos k1,if_pos k1] at hq
  refine call hG [] (rfill_ok (.ofNat 0) (G.lu L) g hfw) ⟨rfl,rfl,rfl⟩ ?_
  rintro _ _ ⟨F,f,rfl,rfl,hF,hf⟩
  cbv
  have eF:F=List.replicate L.length 0:=by rw [hF,hlu];rfl
  subst hf
  refine call hG [] (rbin_ar (.ofNat 22) (.inr (.inl rfl)) F L f f (by rw [eF,List.length_replicate];omega) (by omega) (by rw [eF];exact byt_rep _) (byt_nv nL)) ⟨rfl,rfl,rfl⟩ ?_
  rintro _ _ ⟨Z,z,rfl,rfl,hZ,hz⟩
  cbv
  refine okd hG (by kernel_rfl) (hq _ _ (by rw [hZ,eF];rfl) (by rw [hz,eF];exact neg_sg nL))
 have k1:op≠12:=cmp_f hG k1
 rw [if_neg k1,if_neg k1] at hq
 refine SX.ite hG (fun k2=>?_) (fun k2=>?_)
 ·have k2:op=13:=cmp_t hG k2
  rw [if_pos k2,if_pos k2] at hq
  refine call hG [] (rtruth_ok L g (by omega) (byt_nv nL)) ⟨rfl,rfl,rfl⟩ ?_
  rintro _ _ ⟨x,rfl,rfl,hx⟩
  cbv
  rw [nB_id nL] at hx
  refine call hG [] (rNot_ok x (by rw [hx];exact fld_4 bOr_44 nL)) ⟨rfl,rfl,rfl⟩ ?_
  rintro _ _ ⟨y,rfl,rfl,hy⟩
  cbv
  refine call hG [] (rsingle_ok y) ⟨rfl,rfl,rfl⟩ ?_
  rintro _ _ ⟨Z,z,rfl,rfl,hZ,hz⟩
  cbv
  exact hq _ _ (by rw [hZ,hy,hx]) hz
 have k2:op≠13:=cmp_f hG k2
 rw [if_neg k2,if_neg k2] at hq
 refine SX.ite hG (fun k3=>?_) (fun k3=>?_)
 ·have k3:op=15:=cmp_t hG k3
  rw [if_pos k3,if_pos k3] at hq
  refine call hG [] (rsingle_ok a) ⟨rfl,rfl,rfl⟩ ?_
  rintro _ _ ⟨Z,z,rfl,rfl,hZ,hz⟩
  cbv
  exact hq _ _ (by rw [hZ,ha]) hz
 have k3:op≠15:=cmp_f hG k3
 rw [if_neg k3,if_neg k3] at hq
 refine SX.ite hG (fun k4=>?_) (fun k4=>?_)
 ·have k4:op=16:=cmp_t hG k4
  rw [if_pos k4,if_pos k4] at hq
  refine call hG [] (rsingle_ok b) ⟨rfl,rfl,rfl⟩ ?_
  rintro _ _ ⟨Z,z,rfl,rfl,hZ,hz⟩
  cbv
  exact hq _ _ (by rw [hZ,hb]) hz
 have k4:op≠16:=cmp_f hG k4
 rw [if_neg k4,if_neg k4] at hq
 refine SX.ite hG (fun k5=>?_) (fun k5=>?_)
 ·have k5:op=17:=cmp_t hG k5
  rw [if_pos k5,if_pos k5] at hq
  refine call hG [] (rsingle_ok c) ⟨rfl,rfl,rfl⟩ ?_
  rintro _ _ ⟨Z,z,rfl,rfl,hZ,hz⟩
  cbv
  exact hq _ _ (by rw [hZ,hc]) hz
 have k5:op≠17:=cmp_f hG k5
 rw [if_neg k5,if_neg k5] at hq
 refine SX.ite hG (fun k6=>?_) (fun k6=>?_)
 ·have k6:op=18:=cmp_t hG k6
  rw [if_pos k6,if_pos k6] at hq
  refine call hG [] (rNot_ok a a4) ⟨rfl,rfl,rfl⟩ ?_
  rintro _ _ ⟨y,rfl,rfl,hy⟩
  cbv
  refine call hG [] (rsingle_ok y) ⟨rfl,rfl,rfl⟩ ?_
  rintro _ _ ⟨Z,z,rfl,rfl,hZ,hz⟩
  cbv
  exact hq _ _ (by rw [hZ,hy,ha]) hz
 have k6:op≠18:=cmp_f hG k6
 rw [if_neg k6,if_neg k6] at hq
 refine SX.ite hG (fun k7=>?_) (fun k7=>?_)
 ·have k7:op=19:=cmp_t hG k7
  rw [if_pos k7,if_pos k7] at hq
  refine call hG [] (rNot_ok b b4) ⟨rfl,rfl,rfl⟩ ?_
  rintro _ _ ⟨y,rfl,rfl,hy⟩
  cbv
  refine call hG [] (rsingle_ok y) ⟨rfl,rfl,rfl⟩ ?_
  rintro _ _ ⟨Z,z,rfl,rfl,hZ,hz⟩
  cbv
  exact hq _ _ (by rw [hZ,hy,hb]) hz
 have k7:op≠19:=cmp_f hG k7
 rw [if_neg k7,if_neg k7] at hq
 refine SX.ite hG (fun k8=>?_) (fun k8=>?_)
 ·have k8:op=20:=cmp_t hG k8
  rw [if_pos k8,if_pos k8] at hq
  refine call hG [] (rNot_ok c c4) ⟨rfl,rfl,rfl⟩ ?_
  rintro _ _ ⟨y,rfl,rfl,hy⟩
  cbv
  refine call hG [] (rsingle_ok y) ⟨rfl,rfl,rfl⟩ ?_
  rintro _ _ ⟨Z,z,rfl,rfl,hZ,hz⟩
  cbv
  exact hq _ _ (by rw [hZ,hy,hc]) hz
 have k8:op≠20:=cmp_f hG k8
 rw [if_neg k8,if_neg k8] at hq
 exact hR _ (sws_le (s':=stV L g) (by constructor<;>cbv<;>simp) (run_not L g nL q hq))
theorem runary_ok (op:Int) (l:List Int) (s:Bool) (hl:l.length<2^14) (bl:Byt l):FvC CX TB (.f 88 [] []) [.i .u8 op,.a [.u l,.b s]] [] (RV (unL op (nB l) (nS l s)) (unS op (nS l s))):=by
 have nvl:=nB_nv bl
 refine fn_sws rfl rfl fun B d q hq0=>?_
 have hq:∀ Z z,Z=unL op (nB l) (nS l s)→z=unS op (nS l s)→q (.a [.s 0,.b z]) [.u Z]:=fun Z z h1 h2=>hq0 _ _ ⟨Z,z,rfl,rfl,h1,h2⟩
 clear hq0
 obtain ⟨G,hG⟩:∃ G,G=std CX TB B ⟨d,fun _=>none⟩:=⟨_,rfl⟩
 refine sws_seq hG fun R hR=>?_
 cbv
 refine hR _ ?_
 clear hR R
 refine sws_seq hG fun R hR=>?_
 cbv
 refine call hG [] (rnorm_ok l s (by omega)) ⟨rfl,rfl,rfl⟩ ?_
 rintro _ _ ⟨L,g,rfl,rfl,hL,hg⟩
 cbv
 refine hR _ ?_
 clear hR R
 have nL:NV L:=by rw [hL];exact nvl
 have lL:=nL.len
 have pL:=List.length_pos_iff.2 nL.ne
 rw [←hL,←hg] at hq
 clear hL hg nvl
 have m0:V4 (gu L 0):=nL.v _ (gu_mem (n:=0) pL)
 refine sws_seq hG fun R hR=>?_
 cbv
 have v0:G.ix 0 (G.lu L):=by rw [hG];show (0:Int)≤0∧(0:Int)<(L.length:Int);omega
 have e0:G.gu L 0=gu L 0:=by rw [hG];rfl
 have q0:V4 (G.gu L 0):=by rw [e0];exact m0
 refine ⟨v0,v0,?_⟩
 refine call hG [] (rBuf_ok (G.gu L 0) q0) ⟨rfl,rfl,rfl⟩ ?_
 rintro _ _ ⟨a0,rfl,rfl,ha0⟩
 cbv
 refine ⟨v0,v0,?_⟩
 refine call hG [] (rBuf_ok (G.gu L 0) q0) ⟨rfl,rfl,rfl⟩ ?_
 rintro _ _ ⟨b0,rfl,rfl,hb0⟩
 cbv
 refine ⟨v0,v0,?_⟩
 refine call hG [] (rBuf_ok (G.gu L 0) q0) ⟨rfl,rfl,rfl⟩ ?_
 rintro _ _ ⟨c0,rfl,rfl,hc0⟩
 cbv
 rw [e0] at ha0 hb0 hc0
 refine okd hG (by kernel_rfl) ?_
 refine hR _ ?_
 clear hR R
 refine sws_seq hG fun R hR=>?_
 cbv
 refine lp hG (α:=Int×Int×Int×Int) (fun p=>∃ n:Nat,p.1=(n:Int)∧1≤n∧n≤L.length∧p.2.1=((L.take n).drop 1).foldl bAnd (bBuf (gu L 0))∧p.2.2.1=((L.take n).drop 1).foldl bOr (bBuf (gu L 0))∧p.2.2.2=((L.take n).drop 1).foldl bXor (bBuf (gu L 0))) (fun p=>L.length-p.1.toNat) (fun s p=>(((s.put (some 8) (.i .i64 p.1)).put (some 5) (.i .u8 p.2.1)).put (some 6) (.i .u8 p.2.2.1)).put (some 7) (.i .u8 p.2.2.2)) (1,a0,b0,c0) ⟨1,rfl,Nat.le_refl _,pL,by rw [show (L.take 1).drop 1=[] from by rw [List.drop_eq_nil_iff,List.length_take];omega];exact ha0,by rw [show (L.take 1).drop 1=[] from by rw [List.drop_eq_nil_iff,List.length_take];omega];exact hb0,by rw [show (L.take 1).drop 1=[] from by rw [List.drop_eq_nil_iff,List.length_take];omega];exact hc0⟩ (by constructor<;>cbv<;>simp) ?_
 rintro ⟨j,x,y,z⟩ ⟨n,hj,h1n,hn,hx,hy,hz⟩
 have hx:x=((L.take n).drop 1).foldl bAnd (bBuf (gu L 0)):=hx
 have hy:y=((L.take n).drop 1).foldl bOr (bBuf (gu L 0)):=hy
 have hz:z=((L.take n).drop 1).foldl bXor (bBuf (gu L 0)):=hz
 have x4:V4 x:=by rw [hx];exact fold_t4 bAnd_44 nL n
 have y4:V4 y:=by rw [hy];exact fold_t4 bOr_44 nL n
 have z4:V4 z:=by rw [hz];exact fold_t4 bXor_44 nL n
 cbv
 have hj:j=(n:Int):=hj
 refine SX.ite hG (fun h3=>?_) (fun h3=>?_)
 ·have h3:n<L.length:=by simpa [hG,std,cmpS,arS,beqS,hj] using h3
  have v1:G.ix j (G.lu L):=by rw [hG,hj];show 0≤(n:Int)∧(n:Int)<(L.length:Int);omega
  have e1:G.gu L j=gu L n:=by rw [hG,hj];rfl
  have m1:V4 (G.gu L j):=by rw [e1];exact nL.v _ (gu_mem h3)
  refine ⟨v1,v1,?_⟩
  refine call hG [] (rAnd_ok x _ x4 m1) ⟨rfl,rfl,rfl⟩ ?_
  rintro _ _ ⟨a,rfl,rfl,ha⟩
  cbv
  refine ⟨v1,v1,?_⟩
  refine call hG [] (rOr_ok y _ y4 m1) ⟨rfl,rfl,rfl⟩ ?_
  rintro _ _ ⟨b,rfl,rfl,hb⟩
  cbv
  refine ⟨v1,v1,?_⟩
  refine call hG [] (rXor_ok z _ z4 m1) ⟨rfl,rfl,rfl⟩ ?_
  rintro _ _ ⟨c,rfl,rfl,hc⟩
  cbv
  have hj:j=(n:Int):=hj
  exact ⟨(G.ar .add .i64 j (Int.ofNat 1),a,b,c),⟨n+1,inc hG hj (by omega),by omega,h3,by rw [take_fold h1n h3,←hx,ha,e1],by rw [take_fold h1n h3,←hy,hb,e1],by rw [take_fold h1n h3,←hz,hc,e1]⟩,mu hj (inc hG hj (by omega)) h3,by constructor<;>cbv<;>simp⟩
 ·have h3:L.length≤n:=by simpa [hG,std,cmpS,arS,beqS,hj] using h3
  rw [List.take_of_length_le h3] at hx hy hz
  exact hR _ (sws_le (s':=stU op L g x y z) (by constructor<;>cbv<;>simp) (run_tail op L g x y z nL hx hy hz q hq))
end Go.Proofs.YtdgbdkfoeaollaaGreatDoor.V
end
section
set_option linter.unusedSimpArgs false
set_option linter.unusedVariables false
set_option linter.unusedSectionVars false
namespace Go.Proofs.YtdgbdkfoeaollaaGreatDoor.V
open Go Go.AL Go.SX
structure Sm (Z:List Int) (z:Bool) (R:List Int) (r:Bool):Prop where
 l:Z=R
 s:z=r
 n:Z.length≤128
theorem Sm.b {Z R:List Int} {z r:Bool} (h:Sm Z z R r):(z == r&&Z == R)=true:=by rw [h.l,h.s];simp
theorem Sm.k {Z R:List Int} {z r:Bool} (h:Sm Z z R r):Z.length<2^20∧R.length<2^20:=by have:=h.n;rw [←h.l];omega
theorem fold1 {Z:List Int} (h:NV Z):Z.foldl bAnd 1=fld bAnd Z:=by
 cases Z with
 | nil=>exact absurd rfl h.ne
 | cons x r=>
   have hx:=h.v x (by simp)
   show r.foldl bAnd (bAnd 1 x)=r.foldl bAnd (bBuf x)
   rcases hx.cases with rfl | rfl | rfl | rfl<;>rfl
theorem eqF_beq {X Y:List Int} (h:X.length=Y.length):eqF (fun x y=>x == y) X Y=(X == Y):=by
 rw [Bool.eq_iff_iff,eqF_iff h,beq_iff_eq,gu_ext' h]
 refine forall_congr' fun i=>forall_congr' fun hi=>?_
 rw [beq_iff_eq]
section
variable {l m:List Int} {s t:Bool} (bl:Byt l) (bm:Byt m)
include bl bm
theorem sm_bw {f g:Int→Int→Int} (h:g=f):Sm (bwF f l s m t) (bg l s m t) (bwF g l s m t) (bg l s m t):=
 ⟨by rw [h],rfl,by unfold bwF;rw [zipW_len,bX_len];exact (bwd_r bl bm).2⟩
theorem ar_len {F:List Bool→List Bool→Bool→List Bool} {O:List Bool→List Bool→Bool→Bool} (hF:∀ x y g,O x y g=true→(F x y g).length=x.length):(arL F O l s m t).length≤128:=by
 rw [(arL_v4 hF l m s t).1];exact (bwd_r bl bm).2
theorem sm_add:Sm (toL addF l s m t) (bg l s m t) (arR 21 (bX l s m t) (bY l s m t) (bg l s m t)) (bg l s m t):=
 ⟨by unfold toL arL arR;rw [Bool.and_true,bX_len];rfl,rfl,ar_len bl bm fun x y g _=>ofN_len _ _⟩
theorem sm_sub:Sm (toL subF l s m t) (bg l s m t) (arR 22 (bX l s m t) (bY l s m t) (bg l s m t)) (bg l s m t):=
 ⟨by unfold toL arL arR;rw [Bool.and_true,bX_len];rfl,rfl,ar_len bl bm fun x y g _=>ofN_len _ _⟩
theorem sm_mul:Sm (toL mulF l s m t) (bg l s m t) (arR 23 (bX l s m t) (bY l s m t) (bg l s m t)) (bg l s m t):=
 ⟨by unfold toL arL arR;rw [Bool.and_true,bX_len];rfl,rfl,ar_len bl bm fun x y g _=>ofN_len _ _⟩
theorem sm_div:Sm (divL l s m t) (bg l s m t) (arR 24 (bX l s m t) (bY l s m t) (bg l s m t)) (bg l s m t):=by
 refine ⟨?_,rfl,ar_len bl bm fun x y g h=>(dm_len (of_decide_eq_true h)).1⟩
 show _=if kn (bX l s m t)&&kn (bY l s m t) then (if dmE (boolL (bY l s m t))=0 then intL (dmQ (bg l s m t) (boolL (bX l s m t)) (boolL (bY l s m t))) else List.replicate (bX l s m t).length 2) else List.replicate (bX l s m t).length 2
 unfold divL arL dvO
 rw [bX_len]
 cases kn (bX l s m t)&&kn (bY l s m t) with
 | false=>rfl
 | true=>
   rw [if_pos rfl,Bool.true_and]
   by_cases h:dmE (boolL (bY l s m t))=0
   ·rw [if_pos h,if_pos (decide_eq_true h)]
   ·rw [if_neg h,if_neg (by rw [decide_eq_false h];decide)]
theorem sm_mod:Sm (modL l s m t) (bg l s m t) (arR 25 (bX l s m t) (bY l s m t) (bg l s m t)) (bg l s m t):=by
 refine ⟨?_,rfl,ar_len bl bm fun x y g h=>(dm_len (of_decide_eq_true h)).2⟩
 show _=if kn (bX l s m t)&&kn (bY l s m t) then (if dmE (boolL (bY l s m t))=0 then intL (dmR (bg l s m t) (boolL (bX l s m t)) (boolL (bY l s m t))) else List.replicate (bX l s m t).length 2) else List.replicate (bX l s m t).length 2
 unfold modL arL dvO
 rw [bX_len]
 cases kn (bX l s m t)&&kn (bY l s m t) with
 | false=>rfl
 | true=>
   rw [if_pos rfl,Bool.true_and]
   by_cases h:dmE (boolL (bY l s m t))=0
   ·rw [if_pos h,if_pos (decide_eq_true h)]
   ·rw [if_neg h,if_neg (by rw [decide_eq_false h];decide)]
theorem neg_len:(negL l s).length≤128:=by
 have nv:=nB_nv bl
 unfold negL toL
 exact ar_len (byt_rep _) (byt_nv nv) fun x y g _=>ofN_len _ _
omit bl bm in
theorem ite_len {c:Prop} [Decidable c] {a b:List Int} {n:Nat} (ha:a.length≤n) (hb:b.length≤n):(if c then a else b).length≤n:=by
 split
 ·exact ha
 ·exact hb
theorem pow_len:(powL l s m t).length≤128:=by
 have nv:=nB_nv bl
 have h:=nv.len
 have r:∀ x:Int,(List.replicate (nB l).length x).length≤128:=fun x=>by rw [List.length_replicate];exact h
 unfold powL
 exact ite_len (r 2) (ite_len (by rw [intL_len];show (X.ofN _ _).length≤_;rw [ofN_len,boolL_len];exact h) (ite_len (r 2) (ite_len h (ite_len (neg_len (byt_nv nv) bm) (r 0)))))
theorem sm_pow:Sm (powL l s m t) (nS l s) (powL l s m t) (nS l s):=⟨rfl,rfl,pow_len bl bm⟩
theorem sh_len {dir:Int} {fr:List Int→Bool→Int}:(shL dir fr l s m).length≤128:=by
 have h:=(nB_nv bl).len
 unfold shL
 split
 ·rw [List.length_map,List.length_range];exact h
 ·rw [List.length_replicate];exact h
theorem sm_sh {dir dir':Int} {fr fr':List Int→Bool→Int} (h1:dir'=dir) (h2:fr'=fr):Sm (shL dir fr l s m) (nS l s) (shL dir' fr' l s m) (nS l s):=⟨by rw [h1,h2],rfl,sh_len bl bm⟩
omit bl bm in
theorem sm_one (x y:Int) (h:x=y):Sm [x] false [y] false:=⟨by rw [h],rfl,by simp⟩
theorem cmp_eqv:eqB l s m t=rcpL 27 (bX l s m t) (bY l s m t) (bg l s m t):=(fold1 (zipW_nv (bX_nv bl bm) (bY_nv bl bm) mXY bEq_44)).symm
theorem cmp_ne:bNot (eqB l s m t)=rcpL 28 (bX l s m t) (bY l s m t) (bg l s m t):=by rw [cmp_eqv bl bm];rfl
theorem cmp_ceq:ofB (bX l s m t == bY l s m t)=rcpL 29 (bX l s m t) (bY l s m t) (bg l s m t):=by rw [←eqF_beq mXY];rfl
theorem cmp_cne:bNot (ofB (bX l s m t == bY l s m t))=rcpL 30 (bX l s m t) (bY l s m t) (bg l s m t):=by
 rw [←eqF_beq mXY]
 show _=ofB (!eqF (fun x y=>x == y) (bX l s m t) (bY l s m t))
 cases eqF (fun x y=>x == y) (bX l s m t) (bY l s m t)<;>rfl
omit bl bm in
theorem cmp_lt:cpB (fun c=>decide (c<0)) l s m t=rcpL 31 (bX l s m t) (bY l s m t) (bg l s m t):=rfl
omit bl bm in
theorem cmp_le:cpB (fun c=>decide (c≤0)) l s m t=rcpL 32 (bX l s m t) (bY l s m t) (bg l s m t):=rfl
omit bl bm in
theorem cmp_gt:cpB (fun c=>decide (c > 0)) l s m t=rcpL 33 (bX l s m t) (bY l s m t) (bg l s m t):=rfl
omit bl bm in
theorem cmp_ge:cpB (fun c=>decide (c≥0)) l s m t=rcpL 34 (bX l s m t) (bY l s m t) (bg l s m t):=rfl
theorem match_z:mZ l s m t=eqF (rmt false) (bX l s m t) (bY l s m t):=by
 unfold mZ
 rw [Bool.eq_iff_iff,eqF_iff mXY,eqF_iff mXY]
 refine forall_congr' fun i=>forall_congr' fun hi=>?_
 rw [rmt_f]
theorem match_x:mX l s m t=eqF (rmt true) (bX l s m t) (bY l s m t):=by
 have nX:=bX_nv (s:=s) (t:=t) bl bm
 have nY:=bY_nv (s:=s) (t:=t) bl bm
 unfold mX
 rw [Bool.eq_iff_iff,eqF_iff mXY,eqF_iff mXY]
 refine forall_congr' fun i=>forall_congr' fun hi=>?_
 rw [rmt_t (nX.v _ (gu_mem hi)) (nY.v _ (gu_mem (by rw [←mXY];exact hi)))]
end
section
variable {l:List Int} {s:Bool} (bl:Byt l)
include bl
theorem sm_not:Sm ((nB l).map bNot) (nS l s) (unL 14 (nB l) (nS l s)) (unS 14 (nS l s)):=⟨rfl,rfl,by rw [List.length_map];exact (nB_nv bl).len⟩
theorem sm_neg:Sm (negL l s) (bg (List.replicate (nB l).length 0) (nS l s) (nB l) (nS l s)) (unL 12 (nB l) (nS l s)) (unS 12 (nS l s)):=
 ⟨(sm_sub (byt_rep _) (byt_nv (nB_nv bl))).l,neg_sg (nB_nv bl),neg_len bl bl⟩
end
end Go.Proofs.YtdgbdkfoeaollaaGreatDoor.V
end
section
set_option linter.unusedSimpArgs false
set_option linter.unusedVariables false
set_option maxRecDepth 100000
namespace Go.Proofs.YtdgbdkfoeaollaaGreatDoor.V
open Go Go.AL Go.SX
def onesL:List SV:=[.n .u8 14,.f 29 [] [],.n .u8 12,.f 49 [] [],.n .u8 13,.f 46 [] [],.n .u8 15,.f 40 [] [],.n .u8 16,.f 41 [] [],.n .u8 17,.f 42 [] [],.n .u8 18,.f 43 [] [],.n .u8 19,.f 44 [] [],.n .u8 20,.f 45 [] []]
theorem ones_ok:FvC CX TB (.f 13 [] []) [] [] (fun r ro=>r=.os 0 0 9 2∧ro=[.x onesL]):=by
 refine fn_ok rfl rfl fun B D G hG q hq=>?_
 cbv
 exact hq _ _ ⟨rfl,rfl⟩
end Go.Proofs.YtdgbdkfoeaollaaGreatDoor.V
end
