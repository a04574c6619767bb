/- The reference's Fill; the operators' tables; a loop's state cut down. -/
import Derived.Test.YtdgbdkfoeaollaaGreatDoorVZd
import Derived.Test.YtdgbdkfoeaollaaGreatDoorALe
import Derived.Test.YtdgbdkfoeaollaaGreatDoorVG
import Derived.Test.YtdgbdkfoeaollaaGreatDoorVA
section
set_option linter.unusedSimpArgs false
set_option linter.unusedVariables false
set_option maxRecDepth 100000
namespace Go.Proofs.YtdgbdkfoeaollaaGreatDoor.V
open Go Go.AL Go.SX
theorem lp_le {B:AH} {d:Nat→Prop} {G:Sg} {b:IC} {s s':SX.St} {k:Ctl→SX.St→Prop} (hG:G=std CX TB B ⟨d,fun _=>none⟩) (hl:Le s s') (h:G.lp b s' k):G.lp b s k:=by
 subst hG
 exact fun m E H hs=>h _ E H (hs.le hl)
theorem nv_rep {n:Nat} {x:Int} (h1:1≤n) (h2:n≤128) (h:V4 x):NV (List.replicate n x):=
 ⟨by intro e;have:=congrArg List.length e;rw [List.length_replicate] at this;simp at this;omega,by rw [List.length_replicate];exact h2,fun y hy=>by rw [(List.mem_replicate.1 hy).2];exact h⟩
end Go.Proofs.YtdgbdkfoeaollaaGreatDoor.V
end
section
set_option linter.unusedSimpArgs false
set_option linter.unusedVariables false
namespace Go.Proofs.YtdgbdkfoeaollaaGreatDoor.V
open Go Go.AL Go.SX
def blwF (x y:Int):Bool:=bLeq (bBuf x) (bBuf y)
end Go.Proofs.YtdgbdkfoeaollaaGreatDoor.V
end
section
set_option linter.unusedSimpArgs false
set_option linter.unusedVariables false
namespace Go.Proofs.YtdgbdkfoeaollaaGreatDoor.V
open Go Go.AL Go.SX
def Rf (l m:List Int):Prop:=l.length=m.length∧∀ i:Nat,i<l.length→bLeq (gu l i) (gu m i)=true
theorem bLeq_refl (x:Int):bLeq x x=true:=by unfold bLeq bSame;simp
theorem bLeq_blw {x y:Int} (hx:V4 x) (hy:V4 y) (h:bLeq x y=true):blwF x y=true:=by
 rcases hx.cases with rfl | rfl | rfl | rfl<;>rcases hy.cases with rfl | rfl | rfl | rfl<;>revert h<;>decide
theorem Rf.refl (l:List Int):Rf l l:=⟨rfl,fun i _=>bLeq_refl _⟩
theorem gu_rsz {l:List Int} {s:Bool} {w i:Nat} (h:i<w):gu (rsz l s w) i=if i<l.length then gu l i else top l s:=by
 unfold rsz
 split
 ·rw [gu_take h,if_pos (by omega)]
 ·rw [gu_app]
  split
  ·rfl
  ·rename_i h2
   unfold gu
   rw [Int.toNat_natCast,List.getElem?_replicate,if_pos (by omega)];rfl
theorem Rf.top {l m:List Int} (h:Rf l m) (hl:l≠[]) (s:Bool):bLeq (top l s) (top m s)=true:=by
 unfold V.top
 split
 ·rw [←h.1];exact h.2 _ (by have:=List.length_pos_iff.2 hl;omega)
 ·exact bLeq_refl _
theorem Rf.rsz {l m:List Int} (h:Rf l m) (hl:l≠[]) (s:Bool) (w:Nat):Rf (rsz l s w) (rsz m s w):=by
 refine ⟨by rw [rsz_len,rsz_len],fun i hi=>?_⟩
 rw [rsz_len] at hi
 rw [gu_rsz hi,gu_rsz hi,←h.1]
 split
 ·exact h.2 i (by assumption)
 ·exact h.top hl s
theorem Rf.app {l m l' m':List Int} (h:Rf l m) (h':Rf l' m'):Rf (l++l') (m++m'):=by
 refine ⟨by rw [List.length_append,List.length_append,h.1,h'.1],fun i hi=>?_⟩
 rw [List.length_append] at hi
 rw [gu_app,gu_app,←h.1]
 split
 ·exact h.2 i (by assumption)
 ·exact h'.2 _ (by omega)
theorem Rf.repL {l m:List Int} (h:Rf l m) (hl:l≠[]) (n:Nat):Rf (repL l n) (repL m n):=by
 refine ⟨by rw [repL_len,repL_len,h.1],fun i hi=>?_⟩
 rw [repL_len] at hi
 rw [repL_get hi,repL_get (by rw [←h.1];exact hi),←h.1]
 exact h.2 _ (Nat.mod_lt _ (List.length_pos_iff.2 hl))
end Go.Proofs.YtdgbdkfoeaollaaGreatDoor.V
end
section
set_option linter.unusedSimpArgs false
set_option linter.unusedVariables false
set_option maxRecDepth 100000
namespace Go.Proofs.YtdgbdkfoeaollaaGreatDoor.V
open Go Go.AL Go.SX
def RB4 (l m:List Int):Prop:=l.length=m.length∧∀ i:Nat,i<l.length→blwF (gu l i) (gu m i)=true
theorem blwF_refl (x:Int):blwF x x=true:=by unfold blwF;exact bLeq_refl _
theorem RB4.refl (l:List Int):RB4 l l:=⟨rfl,fun _ _=>blwF_refl _⟩
theorem Rf.rb {l m:List Int} (h:Rf l m) (hl:NV l) (hm:NV m):RB4 l m:=⟨h.1,fun i hi=>bLeq_blw (hl.v _ (gu_mem hi)) (hm.v _ (gu_mem (by rw [←h.1];exact hi))) (h.2 i hi)⟩
theorem RB4.one {x y:Int} (h:blwF x y=true):RB4 [x] [y]:=⟨rfl,fun i hi=>by
 have:i=0:=by simpa using hi
 subst this;exact h⟩
def Mn2 (f:Int→Int→Int):Prop:=∀ x x' y y',V4 x→V4 x'→V4 y→V4 y'→blwF x x'=true→blwF y y'=true→blwF (f x y) (f x' y')=true
theorem mnNot {x x':Int} (h1:V4 x) (h2:V4 x') (h:blwF x x'=true):blwF (bNot x) (bNot x')=true:=by
 rcases h1.cases with rfl | rfl | rfl | rfl<;>rcases h2.cases with rfl | rfl | rfl | rfl<;>revert h<;>decide
theorem RB4.map {l m:List Int} (hl:NV l) (hm:NV m) (h:RB4 l m):RB4 (l.map bNot) (m.map bNot):=by
 refine ⟨by simp [h.1],fun i hi=>?_⟩
 have hi:i<l.length:=by simpa using hi
 rw [gu_map hi,gu_map (by rw [←h.1];exact hi)]
 exact mnNot (hl.v _ (gu_mem hi)) (hm.v _ (gu_mem (by rw [←h.1];exact hi))) (h.2 i hi)
theorem foldl_mn {f:Int→Int→Int} (hf:Mn2 f) (h4:∀ x y,V4 x→V4 y→V4 (f x y)):∀ {l m:List Int} {a b:Int},V4 a→V4 b→(∀ x∈l,V4 x)→(∀ x∈m,V4 x)→RB4 l m→blwF a b=true→blwF (l.foldl f a) (m.foldl f b)=true
 | [],[],a,b,_,_,_,_,_,h=>h
 | [],y::m,a,b,_,_,_,_,h,_=>by cases h.1
 | x::l,[],a,b,_,_,_,_,h,_=>by cases h.1
 | x::l,y::m,a,b,ha,hb,hl,hm,h,hab=>by
   rw [List.foldl_cons,List.foldl_cons]
   have h0:blwF x y=true:=h.2 0 (by simp)
   refine foldl_mn hf h4 (h4 _ _ ha (hl x (by simp))) (h4 _ _ hb (hm y (by simp))) (fun z hz=>hl z (by simp [hz])) (fun z hz=>hm z (by simp [hz])) ⟨by simpa using h.1,fun i hi=>?_⟩ (hf _ _ _ _ ha hb (hl x (by simp)) (hm y (by simp)) hab h0)
   have:=h.2 (i+1) (by simpa using hi)
   have g:∀ (z:Int) (k:List Int),gu (z::k) ((i+1:Nat):Int)=gu k i:=fun z k=>by unfold gu;rw [Int.toNat_natCast,Int.toNat_natCast,List.getElem?_cons_succ]
   rw [g,g] at this
   exact this
theorem blwBuf {x y:Int} (hx:V4 x) (hy:V4 y) (h:blwF x y=true):blwF (bBuf x) (bBuf y)=true:=by
 rcases hx.cases with rfl | rfl | rfl | rfl<;>rcases hy.cases with rfl | rfl | rfl | rfl<;>revert h<;>decide
theorem RB4.drop {l m:List Int} (h:RB4 l m) (k:Nat):RB4 (l.drop k) (m.drop k):=by
 refine ⟨by rw [List.length_drop,List.length_drop,h.1],fun i hi=>?_⟩
 rw [List.length_drop] at hi
 rw [gu_drop,gu_drop]
 exact h.2 _ (by omega)
theorem RB4.fld {f:Int→Int→Int} (hf:Mn2 f) (h4:∀ x y,V4 x→V4 y→V4 (f x y)) {l m:List Int} (hl:NV l) (hm:NV m) (h:RB4 l m):blwF (fld f l) (fld f m)=true:=by
 have pl:=List.length_pos_iff.2 hl.ne
 have pm:=List.length_pos_iff.2 hm.ne
 have a:=hl.v _ (gu_mem (n:=0) pl)
 have b:=hm.v _ (gu_mem (n:=0) pm)
 exact foldl_mn hf h4 (bBuf_4 a.1) (bBuf_4 b.1) (fun x hx=>hl.v x (List.mem_of_mem_drop hx)) (fun x hx=>hm.v x (List.mem_of_mem_drop hx)) (h.drop 1) (blwBuf a b (h.2 0 pl))
theorem RB4.rsz {l m:List Int} (h:RB4 l m) (hl:l≠[]) (s:Bool) (w:Nat):RB4 (rsz l s w) (rsz m s w):=by
 refine ⟨by rw [rsz_len,rsz_len],fun i hi=>?_⟩
 rw [rsz_len] at hi
 rw [gu_rsz hi,gu_rsz hi,←h.1]
 split
 ·exact h.2 i (by assumption)
 ·unfold top
  split
  ·rw [←h.1];exact h.2 _ (by have:=List.length_pos_iff.2 hl;omega)
  ·exact blwF_refl _
structure Op2 (l l' m m':List Int):Prop where
 nl:NV l
 nl':NV l'
 nm:NV m
 nm':NV m'
 rl:Rf l l'
 rm:Rf m m'
theorem intL_v4 (l:List Bool):∀ x∈intL l,V4 x:=fun x hx=>by
 obtain ⟨b,_,rfl⟩:=List.mem_map.1 hx
 exact ofB_4 b
theorem v4_2:V4 2:=by constructor<;>decide
end Go.Proofs.YtdgbdkfoeaollaaGreatDoor.V
end
section
set_option linter.unusedSimpArgs false
set_option linter.unusedVariables false
namespace Go.Proofs.YtdgbdkfoeaollaaGreatDoor.V
open Go Go.AL Go.SX
theorem boolL_intL (l:List Bool):boolL (intL l)=l:=by
 unfold boolL intL
 rw [List.map_map]
 conv=>rhs;rw [←List.map_id l]
 exact List.map_congr_left fun b _=>by cases b<;>rfl
theorem intL_01 (l:List Bool):B01 (intL l):=fun x hx=>by
 obtain ⟨b,_,rfl⟩:=List.mem_map.1 hx
 cases b
 ·exact .inl rfl
 ·exact .inr rfl
theorem intL_boolL {L:List Int} (h:B01 L):intL (boolL L)=L:=by
 unfold boolL intL
 rw [List.map_map]
 conv=>rhs;rw [←List.map_id L]
 exact List.map_congr_left fun x hx=>by rcases h x hx with rfl | rfl<;>rfl
theorem intL_kn (l:List Bool):kn (intL l)=true:=List.all_eq_true.2 fun x hx=>by rcases intL_01 l x hx with rfl | rfl<;>rfl
theorem intL_nv {l:List Bool} (h1:1≤l.length) (h2:l.length≤128):NV (intL l):=
 ⟨by intro e;have:=congrArg List.length e;rw [intL_len] at this;simp at this;rw [this] at h1;simp at h1,by rw [intL_len];exact h2,intL_v4 l⟩
theorem gu_intL (l:List Bool) (i:Nat):gu (intL l) (i:Nat)=ofB (X.bx l i):=by
 unfold gu intL X.bx
 rw [Int.toNat_natCast,List.getElem?_map,List.getD_eq_getElem?_getD]
 cases l[i]?<;>rfl
def vv (g:Bool) (l:List Bool):Int:=if g then X.sval l else ((X.val l:Nat):Int)
theorem vval_intL (l:List Bool) (g:Bool):vval (intL l) g=vv g l:=by unfold vval vv;rw [boolL_intL]
theorem self_I (g:Bool) (l:List Bool):l=X.ofI l.length (vv g l):=by
 cases g with
 | false=>show l=X.ofI _ ((X.val l:Nat):Int);rw [X.ofI_nat,X.ofN_val]
 | true=>
   obtain ⟨k,hk⟩:=X.val_sval l
   show l=X.ofI _ (X.sval l)
   rw [show X.ofI l.length (X.sval l)=X.ofI l.length ((X.val l:Nat):Int) from X.ofI_congr (by rw [hk,Int.add_mul_emod_self_left]),X.ofI_nat,X.ofN_val]
def Rng (g:Bool) (w:Nat) (i:Int):Prop:=if g then X.Sg w i else 1≤w∧w≤64∧0≤i∧i<(2:Int)^w
theorem vv_rng (g:Bool) {l:List Bool} (h1:1≤l.length) (h2:l.length≤64):Rng g l.length (vv g l):=by
 have hv:=X.val_lt l
 cases g with
 | false=>exact ⟨h1,h2,Int.natCast_nonneg _,by have:=X.p2 l.length;show ((X.val l:Nat):Int)<_;omega⟩
 | true=>
   refine ⟨h1,h2,?_⟩
   show -(2:Int)^(l.length-1)≤X.sval l∧X.sval l<(2:Int)^(l.length-1)
   have hp:2^l.length=2*2^(l.length-1):=by rw [←Nat.pow_succ'];congr 1;omega
   have hi:=X.p2 (l.length-1)
   cases hn:X.ng l with
   | false=>
     rw [X.sval_pos hn]
     have h:=X.ng_iff (l:=l) (by omega)
     rw [hn] at h
     have:=of_decide_eq_false h.symm
     omega
   | true=>
     rw [X.sval_neg hn]
     have:=X.ng_half hn
     omega
theorem Rng.up {g:Bool} {w W:Nat} {i:Int} (h:Rng g w i) (hw:w≤W) (hW:W≤64):Rng g W i:=by
 cases g with
 | true=>
   obtain ⟨h1,h2,h3,h4⟩:=(show X.Sg w i from h)
   have a:=Nat.pow_le_pow_right (show 0<2 by decide) (show w-1≤W-1 by omega)
   have b:=X.p2 (w-1)
   have c:=X.p2 (W-1)
   exact (show X.Sg W i from ⟨by omega,hW,by omega,by omega⟩)
 | false=>
   obtain ⟨h1,h2,h3,h4⟩:=(show 1≤w∧w≤64∧0≤i∧i<(2:Int)^w from h)
   have a:=Nat.pow_le_pow_right (show 0<2 by decide) hw
   have b:=X.p2 w
   have c:=X.p2 W
   exact (show 1≤W∧W≤64∧0≤i∧i<(2:Int)^W from ⟨by omega,hW,h3,by omega⟩)
theorem Rng.nat {w:Nat} {i:Int} (h:Rng false w i):((X.val (X.ofI w i):Nat):Int)=i:=by
 obtain ⟨h1,h2,h3,h4⟩:=(show 1≤w∧w≤64∧0≤i∧i<(2:Int)^w from h)
 rw [X.val_I,Int.emod_eq_of_lt h3 h4]
theorem vv_I {g:Bool} {w:Nat} {i:Int} (h:Rng g w i):vv g (X.ofI w i)=i:=by
 cases g with
 | true=>exact X.w_sval (show X.Sg w i from h)
 | false=>exact h.nat
theorem val_zero {g:Bool} {w:Nat} {k:Int} (h:Rng g w k):X.val (X.ofI w k)=0↔k=0:=by
 have z:k=0→X.val (X.ofI w k)=0:=fun e=>by
  have:=X.val_I w k
  rw [e,Int.zero_emod] at this
  rw [e];omega
 refine ⟨fun e=>?_,z⟩
 cases g with
 | true=>exact Classical.byContradiction fun hn=>X.val_I_ne (show X.Sg w k from h) hn e
 | false=>have:=h.nat;rw [e] at this;exact this.symm
theorem vv_zero (g:Bool) (l:List Bool):vv g l=0↔X.val l=0:=by
 cases g with
 | false=>show ((X.val l:Nat):Int)=0↔_;omega
 | true=>
   show X.sval l=0↔_
   rw [←X.absN_zero]
   unfold X.sval
   split<;>omega
structure Two (A B:List Bool):Prop where
 a1:1≤A.length
 a3:A.length≤128
 b1:1≤B.length
 b3:B.length≤128
structure T64 (A B:List Bool):Prop extends Two A B where
 a2:A.length≤64
 b2:B.length≤64
def wd (A B:List Bool):Nat:=Nat.max A.length B.length
section
variable {A B:List Bool} {s t:Bool}
theorem Two.nvA (h:Two A B):NV (intL A):=intL_nv h.a1 h.a3
theorem Two.nvB (h:Two A B):NV (intL B):=intL_nv h.b1 h.b3
theorem T64.wl (h:T64 A B):wd A B≤64:=Nat.max_le.2 ⟨h.a2,h.b2⟩
theorem bwd_I (h:Two A B):bwd (intL A) (intL B)=wd A B:=by unfold bwd wd;rw [nB_id h.nvA,nB_id h.nvB,intL_len,intL_len]
theorem bg_I (h:Two A B):bg (intL A) s (intL B) t=(s&&t):=by unfold bg;rw [nS_id h.nvA,nS_id h.nvB]
theorem rsz_I {A:List Bool} {g:Bool} {w:Nat} (hA:NV (intL A)) (hw:A.length≤w):rsz (intL A) g w=intL (X.ofI w (vv g A)):=by
 have h1:B01 (rsz (intL A) g w):=rsz_01 hA (intL_01 A)
 have h2:=self_I g (boolL (rsz (intL A) g w))
 rw [boolL_len,rsz_len] at h2
 have h3:vv g (boolL (rsz (intL A) g w))=vv g A:=by
  rw [←vval_intL A,←vval_rsz hA (s:=g) (w:=w) (by rw [intL_len];exact hw)];rfl
 have e:boolL (rsz (intL A) g w)=X.ofI w (vv g A):=by rw [←h3];exact h2
 rw [←e,intL_boolL h1]
theorem bX_I (h:Two A B):bX (intL A) s (intL B) t=intL (X.ofI (wd A B) (vv (s&&t) A)):=by
 unfold bX
 rw [nB_id h.nvA,bg_I h,bwd_I h]
 exact rsz_I h.nvA (Nat.le_max_left _ _)
theorem bY_I (h:Two A B):bY (intL A) s (intL B) t=intL (X.ofI (wd A B) (vv (s&&t) B)):=by
 unfold bY
 rw [nB_id h.nvB,bg_I h,bwd_I h]
 exact rsz_I h.nvB (Nat.le_max_right _ _)
theorem T64.rA (h:T64 A B) (g:Bool):Rng g (wd A B) (vv g A):=(vv_rng g h.a1 h.a2).up (Nat.le_max_left _ _) h.wl
theorem T64.rB (h:T64 A B) (g:Bool):Rng g (wd A B) (vv g B):=(vv_rng g h.b1 h.b2).up (Nat.le_max_right _ _) h.wl
theorem ar_I (h:Two A B) {F:List Bool→List Bool→Bool→List Bool} {O:List Bool→List Bool→Bool→Bool} (hO:O (X.ofI (wd A B) (vv (s&&t) A)) (X.ofI (wd A B) (vv (s&&t) B)) (s&&t)=true) :
  arL F O (intL A) s (intL B) t=intL (F (X.ofI (wd A B) (vv (s&&t) A)) (X.ofI (wd A B) (vv (s&&t) B)) (s&&t)):=by
 unfold arL
 rw [bX_I h,bY_I h,bg_I h,intL_kn,intL_kn,boolL_intL,boolL_intL,hO]
 exact if_pos rfl
theorem ar_F (h:Two A B) {F:List Bool→List Bool→Bool→List Bool} {O:List Bool→List Bool→Bool→Bool} (hO:O (X.ofI (wd A B) (vv (s&&t) A)) (X.ofI (wd A B) (vv (s&&t) B)) (s&&t)=false) :
  arL F O (intL A) s (intL B) t=List.replicate (wd A B) 2:=by
 unfold arL
 rw [bX_I h,bY_I h,bg_I h,intL_kn,intL_kn,boolL_intL,boolL_intL,hO,bwd_I h]
 exact if_neg (by decide)
theorem add_I (h:T64 A B):toL addF (intL A) s (intL B) t=intL (X.ofI (wd A B) (arS .add .i64 (vv (s&&t) A) (vv (s&&t) B))):=by
 unfold toL
 rw [ar_I h.toTwo rfl]
 unfold addF
 rw [X.ofI_length,X.w_add h.wl];rfl
theorem sub_I (h:T64 A B):toL subF (intL A) s (intL B) t=intL (X.ofI (wd A B) (arS .sub .i64 (vv (s&&t) A) (vv (s&&t) B))):=by
 unfold toL
 rw [ar_I h.toTwo rfl]
 unfold subF
 rw [X.ofI_length,X.w_sub h.wl];rfl
theorem mul_I (h:T64 A B):toL mulF (intL A) s (intL B) t=intL (X.ofI (wd A B) (arS .mul .i64 (vv (s&&t) A) (vv (s&&t) B))):=by
 unfold toL
 rw [ar_I h.toTwo rfl]
 unfold mulF
 rw [X.ofI_length,X.w_mul h.wl];rfl
theorem zip_I {f:Int→Int→Int} {o:Bool→Bool→Bool} (hf:∀ a b,f (ofB a) (ofB b)=ofB (o a b)) {w:Nat} {i k z:Int} (hz:∀ j,j<w→X.bx (X.ofI w z) j=o (X.bx (X.ofI w i) j) (X.bx (X.ofI w k) j)) :
  zipW f (intL (X.ofI w i)) (intL (X.ofI w k))=intL (X.ofI w z):=by
 refine gu_ext (by rw [zipW_len,intL_len,intL_len,X.ofI_length,X.ofI_length]) fun j hj=>?_
 rw [zipW_len,intL_len,X.ofI_length] at hj
 rw [zipW_get (by rw [intL_len,X.ofI_length];exact hj),gu_intL,gu_intL,gu_intL,hf,hz j hj]
theorem bx_bv {w:Nat} (hw:w≤64) (b:BitVec 64) {j:Nat} (hj:j<w):X.bx (X.ofI w (IntKind.wrap .i64 (b.toNat:Int))) j=b.getLsbD j:=by
 rw [X.ofI_congr (X.wrap_congr' hw _),X.ofI_nat,X.bx_ofN,decide_eq_true hj,Bool.true_and]
 rfl
theorem bx_64 {w:Nat} (hw:w≤64) (i:Int) {j:Nat} (hj:j<w):X.bx (X.ofI w i) j=(BitVec.ofInt 64 i).getLsbD j:=by
 have e:X.ofI w i=X.ofI w ((BitVec.ofInt 64 i).toNat:Int):=X.ofI_congr (by
  rw [BitVec.toNat_ofInt,Int.toNat_of_nonneg (Int.emod_nonneg _ (by decide)),X.p2,Int.emod_emod_of_dvd _ (X.pow_dvd hw)])
 rw [e,X.ofI_nat,X.bx_ofN,decide_eq_true hj,Bool.true_and]
 rfl
theorem and_I (h:T64 A B):bwF bAnd (intL A) s (intL B) t=intL (X.ofI (wd A B) (arS .and .i64 (vv (s&&t) A) (vv (s&&t) B))):=by
 unfold bwF
 rw [bX_I h.toTwo,bY_I h.toTwo]
 refine zip_I (o:=fun a b=>a&&b) (fun a b=>by cases a<;>cases b<;>rfl) fun j hj=>?_
 show X.bx (X.ofI _ (IntKind.wrap .i64 ((BitVec.ofInt 64 _ &&& BitVec.ofInt 64 _).toNat:Int))) j=_
 rw [bx_bv h.wl _ hj,bx_64 h.wl _ hj,bx_64 h.wl _ hj,BitVec.getLsbD_and]
theorem or_I (h:T64 A B):bwF bOr (intL A) s (intL B) t=intL (X.ofI (wd A B) (arS .or .i64 (vv (s&&t) A) (vv (s&&t) B))):=by
 unfold bwF
 rw [bX_I h.toTwo,bY_I h.toTwo]
 refine zip_I (o:=fun a b=>a||b) (fun a b=>by cases a<;>cases b<;>rfl) fun j hj=>?_
 show X.bx (X.ofI _ (IntKind.wrap .i64 ((BitVec.ofInt 64 _ ||| BitVec.ofInt 64 _).toNat:Int))) j=_
 rw [bx_bv h.wl _ hj,bx_64 h.wl _ hj,bx_64 h.wl _ hj,BitVec.getLsbD_or]
theorem xor_I (h:T64 A B):bwF bXor (intL A) s (intL B) t=intL (X.ofI (wd A B) (arS .xor .i64 (vv (s&&t) A) (vv (s&&t) B))):=by
 unfold bwF
 rw [bX_I h.toTwo,bY_I h.toTwo]
 refine zip_I (o:=fun a b=>a ^^ b) (fun a b=>by cases a<;>cases b<;>rfl) fun j hj=>?_
 show X.bx (X.ofI _ (IntKind.wrap .i64 ((BitVec.ofInt 64 _ ^^^ BitVec.ofInt 64 _).toNat:Int))) j=_
 rw [bx_bv h.wl _ hj,bx_64 h.wl _ hj,bx_64 h.wl _ hj,BitVec.getLsbD_xor]
theorem xnor_I (h:T64 A B):bwF bEq (intL A) s (intL B) t=intL (X.ofI (wd A B) (unI .xor .i64 (arS .xor .i64 (vv (s&&t) A) (vv (s&&t) B)))):=by
 unfold bwF
 rw [bX_I h.toTwo,bY_I h.toTwo]
 refine zip_I (o:=fun a b=>!(a ^^ b)) (fun a b=>by cases a<;>cases b<;>rfl) fun j hj=>?_
 have hl:=h.wl
 show X.bx (X.ofI _ (IntKind.wrap .i64 ((BitVec.ofInt 64 (-1) ^^^ BitVec.ofInt 64 (IntKind.wrap .i64 ((BitVec.ofInt 64 _ ^^^ BitVec.ofInt 64 _).toNat:Int))).toNat:Int))) j=_
 rw [bx_bv hl _ hj,BitVec.getLsbD_xor,←bx_64 hl (IntKind.wrap .i64 _) hj,bx_bv hl _ hj,bx_64 hl _ hj,bx_64 hl _ hj,BitVec.getLsbD_xor,show BitVec.ofInt 64 (-1)=BitVec.allOnes 64 from by decide,BitVec.getLsbD_allOnes,decide_eq_true (show j<64 by omega),Bool.true_xor]
theorem dmE_I {g:Bool} {w:Nat} {k:Int} (h:Rng g w k):decide (dmE (X.ofI w k)=0)=decide (k≠0):=by
 unfold dmE
 by_cases hk:k=0
 ·rw [if_pos ((val_zero h).2 hk),decide_eq_false (by decide),decide_eq_false (by simp [hk])]
 ·rw [if_neg fun e=>hk ((val_zero h).1 e),decide_eq_true rfl,decide_eq_true hk]
theorem div_I (h:T64 A B) (hk:vv (s&&t) B≠0):divL (intL A) s (intL B) t=intL (X.ofI (wd A B) (arS .quo .i64 (vv (s&&t) A) (vv (s&&t) B))):=by
 have ra:=h.rA (s&&t)
 have rb:=h.rB (s&&t)
 have hl:=h.wl
 unfold divL
 rw [ar_I h.toTwo (by unfold dvO;rw [dmE_I rb];exact decide_eq_true hk)]
 have hn:¬ X.val (X.ofI (wd A B) (vv (s&&t) B))=0:=fun e=>hk ((val_zero rb).1 e)
 unfold dmQ
 rw [if_neg hn]
 cases hg:(s&&t) with
 | true=>
   rw [hg] at ra rb
   rw [if_pos rfl,X.w_quo ra rb];rfl
 | false=>
   rw [hg] at ra rb
   have ea:=ra.nat
   have eb:=rb.nat
   rw [if_neg (by decide),X.ofI_length]
   congr 1
   refine X.eqNI ?_
   show _=fwrap .i64 _ % _
   rw [X.wrap_congr hl,Int.natCast_ediv,ea,eb]
   rw [Int.tdiv_eq_ediv_of_nonneg (by rw [←ea];exact Int.natCast_nonneg _)]
theorem mod_I (h:T64 A B) (hk:vv (s&&t) B≠0):modL (intL A) s (intL B) t=intL (X.ofI (wd A B) (arS .rem .i64 (vv (s&&t) A) (vv (s&&t) B))):=by
 have ra:=h.rA (s&&t)
 have rb:=h.rB (s&&t)
 unfold modL
 rw [ar_I h.toTwo (by unfold dvO;rw [dmE_I rb];exact decide_eq_true hk)]
 have hn:¬ X.val (X.ofI (wd A B) (vv (s&&t) B))=0:=fun e=>hk ((val_zero rb).1 e)
 unfold dmR
 rw [if_neg hn]
 cases hg:(s&&t) with
 | true=>
   rw [hg] at ra rb
   rw [if_pos rfl,X.w_rem ra rb];rfl
 | false=>
   rw [hg] at ra rb
   have ea:=ra.nat
   have eb:=rb.nat
   rw [if_neg (by decide),X.ofI_length]
   congr 1
   refine X.eqNI ?_
   show _=(vv false A).tmod (vv false B) % _
   rw [Int.natCast_emod,ea,eb]
   rw [Int.tmod_eq_emod_of_nonneg (by rw [←ea];exact Int.natCast_nonneg _)]
theorem kn_2 {n:Nat} (h:1≤n) (h2:n≤128):kn (nB (List.replicate n 2))=false:=by
 rw [nB_id (nv_rep h h2 v4_2)]
 obtain ⟨m,rfl⟩:∃ m,n=m+1:=⟨n-1,by omega⟩
 rw [List.replicate_succ]
 rfl
theorem T64.w1 (h:T64 A B):1≤wd A B:=Nat.le_trans h.a1 (Nat.le_max_left _ _)
theorem cmpN_sign (a b:Nat):(X.cmpN a b<0↔a<b)∧(X.cmpN a b=0↔a=b):=by
 unfold X.cmpN
 split
 ·omega
 ·split<;>omega
theorem cmpV_sign {g:Bool} {w:Nat} {i k:Int} (hi:Rng g w i) (hk:Rng g w k):(cmpV g (X.ofI w i) (X.ofI w k)<0↔i<k)∧(cmpV g (X.ofI w i) (X.ofI w k)=0↔i=k):=by
 unfold cmpV
 cases g with
 | true=>
   obtain ⟨h1,h2⟩:=X.w_scmp (show X.Sg w i from hi) (show X.Sg w k from hk)
   rw [if_pos rfl]
   refine ⟨decide_eq_decide.1 h1,?_⟩
   rw [←beq_iff_eq,h2,beq_iff_eq]
 | false=>
   have ei:=hi.nat
   have ek:=hk.nat
   have:=cmpN_sign (X.val (X.ofI w i)) (X.val (X.ofI w k))
   rw [if_neg (by decide)]
   refine ⟨this.1.trans ?_,this.2.trans ?_⟩<;>omega
theorem cpB_I (h:T64 A B) (is:Int→Bool):cpB is (intL A) s (intL B) t=ofB (is (cmpV (s&&t) (X.ofI (wd A B) (vv (s&&t) A)) (X.ofI (wd A B) (vv (s&&t) B)))):=by
 unfold cpB
 rw [bX_I h.toTwo,bY_I h.toTwo,bg_I h.toTwo,intL_kn,intL_kn,boolL_intL,boolL_intL]
 exact if_pos rfl
theorem lt_I (h:T64 A B):cpB (fun c=>decide (c<0)) (intL A) s (intL B) t=ofB (cmpS .lss (vv (s&&t) A) (vv (s&&t) B)):=by
 have:=cmpV_sign (h.rA (s&&t)) (h.rB (s&&t))
 rw [cpB_I h];show ofB (decide _)=ofB (decide _);congr 1;exact decide_eq_decide.2 this.1
theorem le_I (h:T64 A B):cpB (fun c=>decide (c≤0)) (intL A) s (intL B) t=ofB (cmpS .leq (vv (s&&t) A) (vv (s&&t) B)):=by
 have:=cmpV_sign (h.rA (s&&t)) (h.rB (s&&t))
 rw [cpB_I h];show ofB (decide _)=ofB (decide _);congr 1;exact decide_eq_decide.2 (by omega)
theorem gt_I (h:T64 A B):cpB (fun c=>decide (c > 0)) (intL A) s (intL B) t=ofB (cmpS .gtr (vv (s&&t) A) (vv (s&&t) B)):=by
 have:=cmpV_sign (h.rA (s&&t)) (h.rB (s&&t))
 rw [cpB_I h];show ofB (decide _)=ofB (decide _);congr 1;exact decide_eq_decide.2 (by omega)
theorem ge_I (h:T64 A B):cpB (fun c=>decide (c≥0)) (intL A) s (intL B) t=ofB (cmpS .geq (vv (s&&t) A) (vv (s&&t) B)):=by
 have:=cmpV_sign (h.rA (s&&t)) (h.rB (s&&t))
 rw [cpB_I h];show ofB (decide _)=ofB (decide _);congr 1;exact decide_eq_decide.2 (by omega)
theorem same_I (h:T64 A B):(bX (intL A) s (intL B) t == bY (intL A) s (intL B) t)=cmpS .eql (vv (s&&t) A) (vv (s&&t) B):=by
 rw [bX_I h.toTwo,bY_I h.toTwo]
 show _=(vv (s&&t) A == vv (s&&t) B)
 rw [Bool.eq_iff_iff,beq_iff_eq,beq_iff_eq]
 refine ⟨fun e=>?_,fun e=>by rw [e]⟩
 have e2:=congrArg boolL e
 rw [boolL_intL,boolL_intL] at e2
 have e3:=congrArg (vv (s&&t)) e2
 rwa [vv_I (h.rA _),vv_I (h.rB _)] at e3
theorem caseEq_I (h:T64 A B):ofB (bX (intL A) s (intL B) t == bY (intL A) s (intL B) t)=ofB (cmpS .eql (vv (s&&t) A) (vv (s&&t) B)):=by rw [same_I h]
theorem eq_I (h:T64 A B):eqB (intL A) s (intL B) t=ofB (cmpS .eql (vv (s&&t) A) (vv (s&&t) B)):=by
 rw [eqB_T (by rw [bX_I h.toTwo];exact intL_01 _) (by rw [bY_I h.toTwo];exact intL_01 _) (bX_nv (byt_nv h.nvA) (byt_nv h.nvB)).ne,same_I h]
theorem ne_I (h:T64 A B):bNot (eqB (intL A) s (intL B) t)=ofB (cmpS .neq (vv (s&&t) A) (vv (s&&t) B)):=by
 rw [eq_I h]
 show bNot (ofB (_ == _))=ofB (!(_ == _))
 cases (vv (s&&t) A == vv (s&&t) B)<;>rfl
theorem foldO {L:List Int} (h:B01 L):∀ a:Int,a=0∨a=1→L.foldl bOr a=ofB (a == 1||L.any (· == 1)):=by
 induction L with
 | nil=>intro a ha;rcases ha with rfl | rfl<;>decide
 | cons x L ih=>
   intro a ha
   have hx:=h x (by simp)
   have hL:B01 L:=fun y hy=>h y (by simp [hy])
   rw [List.foldl_cons,ih hL]
   ·rcases ha with rfl | rfl<;>rcases hx with rfl | rfl<;>simp [bOr,bpair,bnorm,gu,orsL,ofB]
   ·rcases ha with rfl | rfl<;>rcases hx with rfl | rfl<;>decide
theorem fldO {L:List Int} (h:B01 L) (hne:L≠[]):fld bOr L=ofB (L.any (· == 1)):=by
 cases L with
 | nil=>exact absurd rfl hne
 | cons x L=>
   have hx:=h x (by simp)
   have hL:B01 L:=fun y hy=>h y (by simp [hy])
   show L.foldl bOr (bBuf x)=_
   have e:bBuf x=x:=by rcases hx with rfl | rfl<;>decide
   rw [e,foldO hL x hx]
   rfl
theorem any_val:∀ l:List Bool,(intL l).any (· == 1)=decide (X.val l≠0)
 | []=>rfl
 | b::l=>by
   show (ofB b == 1||(intL l).any (· == 1))=decide (b.toNat+2*X.val l≠0)
   rw [any_val l]
   cases b
   ·show (false||_)=_
    rw [Bool.false_or]
    refine decide_eq_decide.2 ?_
    simp;omega
   ·show (true||_)=_
    rw [Bool.true_or]
    refine (decide_eq_true ?_).symm
    simp
theorem truth_I {l:List Bool} (h1:1≤l.length) (h2:l.length≤128) (g:Bool):fld bOr (nB (intL l))=ofB (cmpS .neq (vv g l) 0):=by
 have nv:=intL_nv h1 h2
 rw [nB_id nv,fldO (intL_01 l) nv.ne,any_val]
 congr 1
 show _=(vv g l != 0)
 rw [Bool.eq_iff_iff,decide_eq_true_iff,bne_iff_ne]
 exact not_congr (vv_zero g l).symm
theorem shn_I {l m:List Bool}:shN l.length (intL m)=if X.val m<l.length then X.val m else l.length:=by unfold shN;rw [boolL_intL]
theorem shl_I (h:T64 A B):shL (-1) (fun _ _=>0) (intL A) s (intL B)=intL (X.ofI A.length (shS .shl .i64 (vv s A) (X.val B:Nat))):=by
 unfold shL
 rw [nB_id h.nvA,nB_id h.nvB,intL_kn,if_pos rfl,intL_len,shn_I]
 show _=intL (X.ofI A.length (IntKind.wrap .i64 (vv s A*2^min ((X.val B:Nat):Int).toNat 64)))
 rw [Int.toNat_natCast,←X.w_shl (m:=vv s A) h.a2 (X.val B),←self_I s A]
 refine gu_ext (by rw [List.length_map,List.length_range,intL_len,X.ofN_length]) fun j hj=>?_
 rw [List.length_map,List.length_range] at hj
 have e:=shM_get (L:=intL A) (dir:=-1) (n:=if X.val B<A.length then X.val B else A.length) (f:=0) (i:=j) (by rw [intL_len];exact hj)
 rw [intL_len] at e
 rw [e,gu_intL,X.bx_ofN,decide_eq_true hj,Bool.true_and,Nat.testBit_mul_two_pow,X.val_bit]
 unfold shF
 rw [intL_len]
 by_cases hb:X.val B<A.length
 ·rw [if_pos hb]
  by_cases hjb:X.val B≤j
  ·rw [if_pos (by omega),decide_eq_true hjb,Bool.true_and,show (j:Int) + -1*((X.val B:Nat):Int)=((j-X.val B:Nat):Int) by omega,gu_intL]
  ·rw [if_neg (by omega),decide_eq_false hjb,Bool.false_and];rfl
 ·rw [if_neg hb,if_neg (by omega),decide_eq_false (by omega),Bool.false_and];rfl
theorem shr_bits {L:List Bool} {n:Nat} {f:Bool}:(List.range L.length).map (shF (intL L) 1 (if n<L.length then n else L.length) (ofB f))=intL (X.shrF L n f):=by
 refine gu_ext (by rw [List.length_map,List.length_range,intL_len,X.shrF_length]) fun j hj=>?_
 rw [List.length_map,List.length_range] at hj
 have e:=shM_get (L:=intL L) (dir:=1) (n:=if n<L.length then n else L.length) (f:=ofB f) (i:=j) (by rw [intL_len];exact hj)
 rw [intL_len] at e
 rw [e]
 have e2:gu (intL (X.shrF L n f)) (j:Nat)=ofB (if j+n<L.length then X.bx L (j+n) else f):=by
  unfold gu intL X.shrF
  rw [Int.toNat_natCast,List.getElem?_map,List.getElem?_map,List.getElem?_range hj];rfl
 rw [e2]
 unfold shF
 rw [intL_len]
 by_cases hb:n<L.length
 ·rw [if_pos hb]
  by_cases hjb:j+n<L.length
  ·rw [if_pos (by omega),if_pos hjb,show (j:Int)+1*(n:Int)=((j+n:Nat):Int) by omega,gu_intL]
  ·rw [if_neg (by omega),if_neg hjb]
 ·rw [if_neg hb,if_neg (by omega),if_neg (by omega)]
theorem shr_I (h:T64 A B):shL 1 top (intL A) s (intL B)=intL (X.ofI A.length (shS .shr .i64 (vv s A) (X.val B:Nat))):=by
 unfold shL
 rw [nB_id h.nvA,nB_id h.nvB,intL_kn,if_pos rfl,intL_len,shn_I,nS_id h.nvA]
 show _=intL (X.ofI A.length ((vv s A).fdiv (2^min ((X.val B:Nat):Int).toNat 64)))
 rw [Int.toNat_natCast]
 have ra:=vv_rng s h.a1 h.a2
 have ea:=self_I s A
 cases s with
 | true=>
   rw [show top (intL A) true=ofB (X.bx A (A.length-1)) from by unfold top;rw [if_pos rfl,gu_intL,intL_len],shr_bits]
   have e:=X.w_sar (show X.Sg A.length (vv true A) from ra) (X.val B)
   rw [←ea] at e
   rw [e]
 | false=>
   rw [show top (intL A) false=ofB false from rfl,shr_bits]
   have e:=X.w_shr (m:=vv false A) h.a2 (X.val B)
   rw [←ea] at e
   rw [e,X.ofI_congr (X.wrap_congr h.a2 _)]
   rfl
theorem neg_I (h1:1≤A.length) (h2:A.length≤64):negL (intL A) s=intL (X.ofI A.length (unI .neg .i64 (vv s A))):=by
 have nv:=intL_nv h1 (by omega)
 have hT:T64 (List.replicate A.length false) A:=⟨⟨by rw [List.length_replicate];exact h1,by rw [List.length_replicate];omega,h1,by omega⟩,by rw [List.length_replicate];exact h2,h2⟩
 have hw:wd (List.replicate A.length false) A=A.length:=by unfold wd;rw [List.length_replicate];exact Nat.max_self _
 unfold negL
 rw [nB_id nv,nS_id nv,show List.replicate (intL A).length (0:Int)=intL (List.replicate A.length false) from by unfold intL;rw [List.map_replicate,List.length_map];rfl,sub_I hT,hw,Bool.and_self]
 rw [(vv_zero s (List.replicate A.length false)).2 (val_rf _)]
 rfl
end
end Go.Proofs.YtdgbdkfoeaollaaGreatDoor.V
end
section
set_option linter.unusedSimpArgs false
set_option linter.unusedVariables false
namespace Go.Proofs.YtdgbdkfoeaollaaGreatDoor.V0
open Go Go.AL Go.SX Go.Proofs.YtdgbdkfoeaollaaGreatDoor.V
noncomputable abbrev CX:Ctx:=⟨IR.ft,noExt⟩
theorem inc {B:AH} {D:Bs} {G:Sg} (hG:G=std CX TB B D) {j:Int} {n:Nat} (hj:j=(n:Int)) (hn:n<2^40):G.ar .add .i64 j (Int.ofNat 1)=((n+1:Nat):Int):=by
 subst hG hj
 show fwrap .i64 ((n:Int)+1)=_
 rw [fwi (by omega)];rfl
theorem addi {B:AH} {D:Bs} {G:Sg} (hG:G=std CX TB B D) {a b:Int} (h:-(2^62)≤a+b∧a+b<2^62):G.ar .add .i64 a b=a+b:=by
 subst hG;exact fwi h
theorem valid_ok (x:Int):FvC CX TB (.f 110 [] []) [.i .u8 x] [] (RB (decide (x≤3))):=by
 refine fn_ok rfl rfl fun B D G hG q hq=>?_
 cbv
 subst hG
 exact hq _ _ ⟨_,rfl,rfl,rfl⟩
theorem clone_ok (l:List Int) (hl:l≠[]) (hn:l.length<2^20):FvC CX TB (.f 163 [] []) [.u l] [] (RU l):=by
 refine fn_ok rfl rfl fun B D G hG q hq=>?_
 cbv
 subst hG
 exact ⟨fun h=>absurd h hl,by simp only [std];omega,hq _ _ ⟨_,rfl,rfl,rfl⟩⟩
theorem check_ok (l:List Int) (s:Bool):FvC CX TB (.f 28 [] []) [.a [.u l,.b s]] [] (RI .i64 (chk l)):=by
 refine fn_ok rfl rfl fun B D G hG q hq=>?_
 cbv
 refine SX.ite hG (fun h1=>?_) (fun h1=>?_)
 ·have h1:l.length=0:=by simpa [hG,std,cmpS,arS,beqS] using h1
  exact hq _ _ ⟨_,rfl,rfl,by simp [chk,h1]⟩
 have h1:l.length≠0:=by simpa [hG,std,cmpS,arS,beqS] using h1
 refine SX.ite hG (fun h2=>?_) (fun h2=>?_)
 ·have h2:128<l.length:=by have hq_:=h2;simp [hG,std,cmpS,arS,beqS] at hq_;omega
  exact hq _ _ ⟨_,rfl,rfl,by rw [chk,if_neg h1,if_pos (by omega)];rfl⟩
 have h2:l.length≤128:=by have hq_:=h2;simp [hG,std,cmpS,arS,beqS] at hq_;omega
 have hchk:chk l=if l.all (fun x=>decide (x≤3)) then 0 else 1:=by rw [chk,if_neg h1,if_neg (by omega)]
 refine lp hG (α:=Int) (fun j=>∃ n:Nat,j=(n:Int)∧n≤l.length∧∀ i:Nat,i<n→gu l i≤3) (fun j=>l.length-j.toNat) (fun s j=>s.put (some 18) (.i .i64 j)) 0 ⟨0,rfl,Nat.zero_le _,by simp⟩ (by constructor<;>cbv<;>simp) ?_
 rintro j ⟨n,hj,hn,hi⟩
 cbv
 refine SX.ite hG (fun h3=>?_) (fun h3=>?_)
 ·have h3:n<l.length:=by simpa [hG,std,cmpS,arS,beqS,hj] using h3
  refine ⟨by simp [hG,std,hj,h3],?_⟩
  refine call hG [] (valid_ok _) ⟨rfl,rfl,rfl⟩ ?_
  rintro _ _ ⟨c,rfl,rfl,hc⟩
  cbv
  have hgu:G.gu l j=gu l n:=by rw [hG,hj];rfl
  rw [hgu] at hc
  refine SX.ite hG (fun h4=>?_) (fun h4=>?_)
  ·refine hq _ _ ⟨_,rfl,rfl,?_⟩
   rw [hchk,if_neg]
   ·rfl
   ·intro ha
    have:=List.all_eq_true.1 ha _ (gu_mem h3)
    simp [hG,std,hc] at h4 this
    omega
  ·exact ⟨G.ar .add .i64 j (Int.ofNat 1),⟨n+1,inc hG hj (by omega),h3,fun i hlt=>by rcases Nat.lt_succ_iff_lt_or_eq.1 hlt with h | rfl;exact hi i h;simpa [hG,std,hc] using h4⟩,mu hj (inc hG hj (by omega)) h3,by constructor<;>cbv<;>simp⟩
 ·have h3:l.length≤n:=by simpa [hG,std,cmpS,arS,beqS,hj] using h3
  refine hq _ _ ⟨_,rfl,rfl,?_⟩
  rw [hchk,if_pos (all_gu fun i hlt=>decide_eq_true (hi i (by omega)))]
  rfl
set_option maxRecDepth 8000 in
theorem mul64_ok (x y:Int) (hx:0≤x∧x<2^32) (hy:0≤y∧y<2^32) (hxy:x*y<2^32):FvC CX TB (.f 195 [] []) [.i .u64 x,.i .u64 y] [] (fun r ro=>∃ a b,r=.t [.i .u64 a,.i .u64 b]∧ro=[]∧a=0∧b=x*y):=by
 have hp:0≤x*y:=Int.mul_nonneg hx.1 hy.1
 refine fn_ok rfl rfl fun B D G hG q hq=>?_
 cbv
 subst hG
 have e1:=andm hx
 have e2:=andm hy
 have e3:=shr32 hx
 have e4:=shr32 hy
 have e5:arS .mul .u64 x y=x*y:=fwu ⟨hp,by omega⟩
 have e6:=shr32 ⟨hp,hxy⟩
 have z1:arS .mul .u64 x 0=0:=by show fwrap .u64 (x*0)=0;rw [Int.mul_zero];rfl
 have z2:arS .mul .u64 0 y=0:=by show fwrap .u64 (0*y)=0;rw [Int.zero_mul];rfl
 have z3:arS .add .u64 0 0=0:=rfl
 have z4:arS .and .u64 0 4294967295=0:=by decide
 have z5:shS .shr .u64 0 32=0:=by decide
 have z6:arS .mul .u64 0 0=0:=rfl
 have nn:(0:Int)≤32:=by decide
 refine ⟨nn,nn,nn,nn,nn,hq _ _ ⟨_,_,rfl,rfl,?_,e5⟩⟩
 show arS .add .u64 (arS .add .u64 (arS .mul .u64 (shS .shr .u64 x 32) (shS .shr .u64 y 32)) (shS .shr .u64 (arS .add .u64 (arS .mul .u64 (shS .shr .u64 x 32) (arS .and .u64 y 4294967295)) (shS .shr .u64 (arS .mul .u64 (arS .and .u64 x 4294967295) (arS .and .u64 y 4294967295)) 32)) 32)) (shS .shr .u64 (arS .add .u64 (arS .and .u64 (arS .add .u64 (arS .mul .u64 (shS .shr .u64 x 32) (arS .and .u64 y 4294967295)) (shS .shr .u64 (arS .mul .u64 (arS .and .u64 x 4294967295) (arS .and .u64 y 4294967295)) 32)) 4294967295) (arS .mul .u64 (arS .and .u64 x 4294967295) (shS .shr .u64 y 32))) 32)=0
 simp only [e1,e2,e3,e4,e5,e6,z1,z2,z3,z4,z5,z6]
theorem mul_ok (x y:Int) (hx:0≤x∧x<2^32) (hy:0≤y∧y<2^32) (hxy:x*y<2^32):FvC CX TB (.f 166 [] []) [.i .u64 x,.i .u64 y] [] (fun r ro=>∃ a b,r=.t [.i .u64 a,.i .u64 b]∧ro=[]∧a=0∧b=x*y):=by
 refine fn_ok rfl rfl fun B D G hG q hq=>?_
 cbv
 refine call hG [] (mul64_ok x y hx hy hxy) ⟨rfl,rfl,rfl⟩ ?_
 rintro _ _ ⟨a,b,rfl,rfl,ha,hb⟩
 cbv
 exact hq _ _ ⟨_,_,rfl,rfl,ha,hb⟩
theorem repeat_ok (l:List Int) (c:Int) (hl:l.length<2^15) (hc:0≤c∧c<2^15):FvC CX TB (.f 108 [] []) [.u l,.i .i64 c] [] (RU (repL l c.toNat)):=by
 obtain ⟨c0,hc0,hcl⟩:∃ n:Nat,c=(n:Int)∧n<2^15:=⟨c.toNat,by omega,by omega⟩
 have hT:l.length*c0<2^30:=Nat.lt_of_le_of_lt (Nat.mul_le_mul (Nat.le_of_lt_succ (show l.length<2^15-1+1 by omega)) (Nat.le_of_lt_succ (show c0<2^15-1+1 by omega))) (by decide)
 refine fn_ok rfl rfl fun B D G hG q hq=>?_
 cbv
 refine SX.ite hG (fun h1=>?_) (fun h1=>?_)
 ·exfalso
  rw [hG] at h1
  have h2:c<0:=of_decide_eq_true h1
  omega
 have u1:G.cv .u64 (G.lu l)=(l.length:Int):=by subst hG;show fwrap .u64 (l.length:Int)=_;exact fwu (by omega)
 have u2:G.cv .u64 c=c:=by subst hG;show fwrap .u64 c=_;exact fwu (by omega)
 have hb:(l.length:Int)*c=((l.length*c0:Nat):Int):=by rw [hc0,Int.natCast_mul]
 refine call hG [] (mul_ok (G.cv .u64 (G.lu l)) (G.cv .u64 c) (by rw [u1];omega) (by rw [u2];omega) (by rw [u1,u2,hb];omega)) ⟨rfl,rfl,rfl⟩ ?_
 rintro _ _ ⟨a,b,rfl,rfl,ha,hb2⟩
 cbv
 rw [u1,u2,hb] at hb2
 have hcv:G.cv .i64 b=((l.length*c0:Nat):Int):=by
  have h0:((l.length*c0:Nat):Int)<2^62:=by omega
  subst hG hb2
  exact fwi (x:=((l.length*c0:Nat):Int)) ⟨by omega,h0⟩
 refine SX.ite hG (fun h2=>?_) (fun h2=>?_)
 ·exfalso
  rw [ha,hG] at h2
  cases h2
 refine SX.ite hG (fun h3=>?_) (fun h3=>?_)
 ·exfalso
  rw [hb2,hG] at h3
  have:=of_decide_eq_true h3
  have h4:((l.length*c0:Nat):Int) > 9223372036854775807:=this
  omega
 have hmk:G.mk0 (G.cv .i64 b):=by rw [hcv,hG];exact ⟨Int.natCast_nonneg _,by omega⟩
 refine ⟨hmk,?_⟩
 have q1:G.ru (G.cv .i64 b)=List.replicate (l.length*c0) 0:=by rw [hcv,hG];rfl
 have q2:G.mn (G.lu l) (G.lu (G.ru (G.cv .i64 b)))=((Nat.min l.length (l.length*c0):Nat):Int):=by
  rw [q1,hG]
  show AL.mn (l.length:Int) ((List.replicate (l.length*c0) (0:Int)).length:Int)=_
  rw [List.length_replicate];exact mn_nat _ _
 have q3:G.cp (G.ru (G.cv .i64 b)) 0 (G.tu l (G.mn (G.lu l) (G.lu (G.ru (G.cv .i64 b)))))=cpS (List.replicate (l.length*c0) 0) ((0:Nat):Int) (l.take (Nat.min l.length (l.length*c0))):=by
  rw [q2,q1,hG];rfl
 have hmin:Nat.min l.length (l.length*c0)=if c0=0 then 0 else l.length:=by
  show min l.length (l.length*c0)=_
  split
  ·rename_i e;subst e;simp
  ·rename_i e;exact Nat.min_eq_left (Nat.le_mul_of_pos_right _ (Nat.pos_of_ne_zero e))
 have hml:Nat.min l.length (l.length*c0)≤l.length∧Nat.min l.length (l.length*c0)≤l.length*c0:=⟨Nat.min_le_left _ _,Nat.min_le_right _ _⟩
 have htl:(l.take (Nat.min l.length (l.length*c0))).length=Nat.min l.length (l.length*c0):=by rw [List.length_take];omega
 refine lp hG (α:=Int×List Int) (fun p=>∃ n:Nat,p.1=(n:Int)∧n≤l.length*c0∧p.2.length=l.length*c0∧(n % l.length=0∨n=l.length*c0)∧(∀ i:Nat,i<n→gu p.2 i=gu l (i % l.length:Nat))∧(0<l.length*c0→0<n)) (fun p=>l.length*c0-p.1.toNat) (fun s p=>(s.put (some 8) (.i .i64 p.1)).setO 0 (.u p.2)) (G.mn (G.lu l) (G.lu (G.ru (G.cv .i64 b))),G.cp (G.ru (G.cv .i64 b)) 0 (G.tu l (G.mn (G.lu l) (G.lu (G.ru (G.cv .i64 b)))))) ?_ (by constructor<;>cbv<;>simp) ?_
 ·refine ⟨Nat.min l.length (l.length*c0),q2,hml.2,?_,?_,?_,?_⟩
  ·show (G.cp _ _ _).length=_
   rw [q3,cpS_len (by rw [htl,List.length_replicate];omega),List.length_replicate]
  ·rw [hmin];split
   ·exact .inl (Nat.zero_mod _)
   ·exact .inl (Nat.mod_self _)
  ·intro i hi
   show gu (G.cp _ _ _) i=_
   rw [q3,cpS_get (by rw [htl,List.length_replicate];omega),if_pos (by rw [htl];omega),Nat.sub_zero,gu_take hi,Nat.mod_eq_of_lt (by omega)]
  ·intro h
   rw [hmin]
   have h1:c0≠0:=fun e=>by subst e;simp at h
   have h2:l.length≠0:=fun e=>by rw [e] at h;simp at h
   rw [if_neg h1];omega
 rintro ⟨j,L⟩ ⟨n,hj,hn,hL,hd,hi,hp⟩
 have hj:j=(n:Int):=hj
 have hL:L.length=l.length*c0:=hL
 have hi:∀ i:Nat,i<n→gu L i=gu l (i % l.length:Nat):=hi
 cbv
 have hj:j=(n:Int):=hj
 refine SX.ite hG (fun h4=>?_) (fun h4=>?_)
 ·have h4:n<l.length*c0:=by
   rw [hG] at h4
   have:=of_decide_eq_true h4
   have h5:j<(L.length:Int):=this
   omega
  have r1:G.tu (G.du L 0) j=L.take n:=by rw [hG,hj];rfl
  have r2:G.sb (G.lu L) j=((l.length*c0-n:Nat):Int):=by rw [hG,hj];show (L.length:Int)-(n:Int)=_;omega
  have htn:(L.take n).length=n:=by rw [List.length_take];omega
  have r3:G.mn (G.lu (G.tu (G.du L 0) j)) (G.sb (G.lu L) j)=((Nat.min n (l.length*c0-n):Nat):Int):=by
   rw [r1,r2,hG]
   show AL.mn ((L.take n).length:Int) ((l.length*c0-n:Nat):Int)=_
   rw [htn];exact mn_nat _ _
  have hm:Nat.min n (l.length*c0-n)≤n∧Nat.min n (l.length*c0-n)≤l.length*c0-n:=⟨Nat.min_le_left _ _,Nat.min_le_right _ _⟩
  have hm0:0<Nat.min n (l.length*c0-n):=Nat.lt_min.2 ⟨hp (by omega),by omega⟩
  have htt:((L.take n).take (Nat.min n (l.length*c0-n))).length=Nat.min n (l.length*c0-n):=by rw [List.length_take,htn];omega
  have r4:G.cp L j (G.tu (G.tu (G.du L 0) j) (G.mn (G.lu (G.tu (G.du L 0) j)) (G.sb (G.lu L) j)))=cpS L n ((L.take n).take (Nat.min n (l.length*c0-n))):=by
   rw [r3,r1,hG,hj];rfl
  have r5:G.ar .add .i64 j (G.mn (G.lu (G.tu (G.du L 0) j)) (G.sb (G.lu L) j))=((n+Nat.min n (l.length*c0-n):Nat):Int):=by
   rw [r3,hj,addi hG (by omega)];omega
  have v1:G.le j (G.lu L):=by rw [hG,hj];show 0≤(n:Int)∧(n:Int)≤(L.length:Int);omega
  refine ⟨v1,v1,okd hG rfl ?_⟩
  refine ⟨(G.ar .add .i64 j (G.mn (G.lu (G.tu (G.du L 0) j)) (G.sb (G.lu L) j)),G.cp L j (G.tu (G.tu (G.du L 0) j) (G.mn (G.lu (G.tu (G.du L 0) j)) (G.sb (G.lu L) j)))),⟨n+Nat.min n (l.length*c0-n),r5,by omega,?_,?_,?_,?_⟩,?_,by constructor<;>cbv<;>simp⟩
  ·show (G.cp _ _ _).length=_
   rw [r4,cpS_len (by rw [htt];omega),hL]
  ·by_cases hc:n≤l.length*c0-n
   ·have:Nat.min n (l.length*c0-n)=n:=Nat.min_eq_left hc
    rw [this]
    rcases hd with hd | hd
    ·exact .inl (by rw [Nat.add_mod,hd];exact Nat.zero_mod _)
    ·omega
   ·have:Nat.min n (l.length*c0-n)=l.length*c0-n:=Nat.min_eq_right (by omega)
    rw [this]
    exact .inr (by omega)
  ·intro i hlt
   show gu (G.cp _ _ _) i=_
   rw [r4,cpS_get (by rw [htt];omega),htt]
   by_cases hni:n≤i
   ·rw [if_pos ⟨hni,hlt⟩,gu_take (by omega),gu_take (by omega),hi _ (by omega)]
    rcases hd with hd | hd
    ·have:(i-n) % l.length=i % l.length:=by
      obtain ⟨k,hk⟩:=Nat.dvd_of_mod_eq_zero hd
      rw [hk,Nat.sub_mul_mod]
      rw [←hk];exact hni
     rw [this]
    ·omega
   ·rw [if_neg (by omega)];exact hi i (by omega)
  ·intro _;omega
  ·show l.length*c0-(G.ar _ _ _ _).toNat<l.length*c0-j.toNat
   rw [r5,hj,Int.toNat_natCast,Int.toNat_natCast];omega
 ·have h4:l.length*c0≤n:=by
   rw [hG] at h4
   have:=of_decide_eq_false h4
   have h5:¬ j<(L.length:Int):=this
   omega
  refine hq _ _ ⟨_,rfl,rfl,?_⟩
  refine gu_ext (by rw [hL,repL_len,hc0];rfl) fun i hlt=>?_
  rw [hi i (by omega),repL_get (by rw [hc0];show i<l.length*c0;omega)]
theorem fill_ok (b w:Int) (s:Bool) (hw:0≤w∧w<2^15):FvC CX TB (.f 105 [] []) [.i .u8 b,.i .i64 w,.b s] [] (RV (List.replicate w.toNat b) s):=by
 refine fn_ok rfl rfl fun B D G hG q hq=>?_
 cbv
 refine call hG [] (repeat_ok [b] w (by simp) hw) ⟨rfl,rfl,rfl⟩ ?_
 rintro _ _ ⟨L,rfl,rfl,hL⟩
 cbv
 exact hq _ _ ⟨_,_,rfl,rfl,by rw [hL,repL_one],rfl⟩
theorem norm_ok (l:List Int) (s:Bool) (hl:l.length<2^15):FvC CX TB (.f 96 [] []) [.a [.u l,.b s]] [] (RV (nB l) (nS l s)):=by
 refine fn_ok rfl rfl fun B D G hG q hq=>?_
 cbv
 refine call hG [] (check_ok l s) ⟨rfl,rfl,rfl⟩ ?_
 rintro _ _ ⟨e,rfl,rfl,he⟩
 cbv
 refine SX.ite hG (fun h1=>?_) (fun h1=>?_)
 ·have h1:¬ e=0:=by simpa [hG,std,cmpS,arS,beqS] using h1
  refine call hG [] (fill_ok _ _ _ (by constructor<;>decide)) ⟨rfl,rfl,rfl⟩ ?_
  rintro _ _ ⟨L,t,rfl,rfl,hL,ht⟩
  cbv
  exact hq _ _ ⟨_,_,rfl,rfl,by rw [hL,nB,if_neg (by rw [←he];exact h1)];rfl,by rw [ht,nS,if_neg (by rw [←he];exact h1)]⟩
 ·have h1:e=0:=by simpa [hG,std,cmpS,arS,beqS] using h1
  have hne:l≠[]:=fun h=>by rw [h] at he;rw [he] at h1;revert h1;decide
  refine call hG [] (clone_ok l hne (by omega)) ⟨rfl,rfl,rfl⟩ ?_
  rintro _ _ ⟨L,rfl,rfl,hL⟩
  cbv
  refine okd hG rfl (hq _ _ ⟨_,_,rfl,rfl,by rw [hL,nB,if_pos (by rw [←he];exact h1)],by rw [nS,if_pos (by rw [←he];exact h1)]⟩)
theorem width_ok (n:Int):FvC CX TB (.f 102 [] []) [.i .i64 n] [] (RB (okW n)):=by
 refine fn_ok rfl rfl fun B D G hG q hq=>?_
 cbv
 refine SX.ite hG (fun h1=>?_) (fun h1=>?_)
 ·exact hq _ _ ⟨_,rfl,rfl,by rw [hG] at h1 ⊢;have h1:decide (n≥1)=true:=h1;show decide (n≤128)=_;simp at h1;simp [okW,h1]⟩
 ·exact hq _ _ ⟨_,rfl,rfl,by rw [hG] at h1;have h1:decide (n≥1)=false:=h1;simp at h1;symm;simp [okW];intro h;omega⟩
end Go.Proofs.YtdgbdkfoeaollaaGreatDoor.V0
end
section
set_option linter.unusedSimpArgs false
set_option linter.unusedVariables false
namespace Go.Proofs.YtdgbdkfoeaollaaGreatDoor.V0
open Go Go.AL Go.SX Go.Proofs.YtdgbdkfoeaollaaGreatDoor.V
def env4:T SV:=((T.nil.set 2 (SV.o 0 0)).set 3 (.o 1 0)).set 4 (.o 2 0)
def objC (out:List Int):List SX.Obj:=[.x [.nil,.kb false],.x [.n .i64 0],.x [.s 3,.kb false],.u out]
def objF:List SX.Obj:=[.x [.nil,.kb false],.x [.n .i64 12]]
structure Fx (D:Bs) (E4:Env):Prop where
 ids:∃ i2 i3 i4,D.m0 0=some (.pointer (some ⟨i2,0,none⟩))∧D.m0 1=some (.pointer (some ⟨i3,0,none⟩))∧D.m0 2=some (.pointer (some ⟨i4,0,none⟩))∧E4.get 2=some (.pointer (some ⟨i2,0,none⟩))∧E4.get 3=some (.pointer (some ⟨i3,0,none⟩))∧E4.get 4=some (.pointer (some ⟨i4,0,none⟩))
theorem Fx.env {D:Bs} {E4 E:Env} {m:List Value} {objs:List SX.Obj} {e:T SV} {H B:AH} (h:Fx D E4) (hs:Sat TB B D m ⟨e,objs⟩ E H):Sat TB B D m ⟨env4,objs⟩ E4 H:=by
 obtain ⟨i2,i3,i4,h2,h3,h4,g2,g3,g4⟩:=h.ids
 refine hs.reEnv fun t x hx=>?_
 simp only [env4,T.get_set] at hx
 split at hx
 ·cases hx;rename_i e;subst e;exact ⟨_,g4,_,(hs.fix 2 _ h4).1,rfl⟩
 split at hx
 ·cases hx;rename_i e;subst e;exact ⟨_,g3,_,(hs.fix 1 _ h3).1,rfl⟩
 split at hx
 ·cases hx;rename_i e;subst e;exact ⟨_,g2,_,(hs.fix 0 _ h2).1,rfl⟩
 ·simp at hx
theorem round {B:AH} {D:Bs} {m:List Value} {E4:Env} {H:AH} {out l:List Int} {s:Bool} {j:Int} {x:Value} (hf:Fx D E4) (hm:∀ i v,D.m0 i=some v→i<3) (hs:Sat TB B D m ⟨env4,objC out⟩ E4 H) (hl:l.length<2^15) (ho:out.length≤128)
  (hx:Den (Own m (objC out)) m H (.a [.u l,.b s]) x):Yw CX IR.cat E4 (.int .i64 j) x H fun b H'=>(b=true∧(out++nB l).length≤128∧∃ m',Sat TB B D m' ⟨env4,objC (out++nB l)⟩ E4 H')∨(b=false∧128<(out++nB l).length∧∃ m',Sat TB B ⟨D.d,fun _=>none⟩ m' ⟨(T.nil.set 2 (SV.o 0 0)).set 3 (.o 1 0),objF⟩ E4 H'):=by
 have hs1:Sat TB B D m ⟨(env4.set 13 (.i .i64 j)).set 14 (.a [.u l,.b s]),objC out⟩ (AL.put (AL.put E4 (some 13) (.int .i64 j)) (some 14) x) H:=by
  refine hs.reEnv fun t y hy=>?_
  rw [T.get_set] at hy
  split at hy
  ·cases hy;rename_i e;subst e;exact ⟨x,by rw [get_putS,if_pos rfl],hx⟩
  ·rw [T.get_set] at hy
   split at hy
   ·cases hy;rename_i e;subst e;exact ⟨_,by rw [get_putS,if_neg (by decide),get_putS,if_pos rfl],rfl⟩
   ·rename_i n1 n2
    obtain ⟨w,e1,e2⟩:=hs.env t y hy
    exact ⟨w,by rw [get_putS,if_neg (Ne.symm n1),get_putS,if_neg (Ne.symm n2)];exact e1,e2⟩
 obtain ⟨G,hG⟩:∃ G,G=std CX TB B D:=⟨_,rfl⟩
 refine Yw.intro ?_
 refine (W_ok (ic:=IR.cat.iasg) (k:=fun c s1=>c=.normal∧s1=⟨((env4.set 13 (.i .i64 j)).set 14 (.a [.u l,.b s])).set 6 (.o 4 0),objC out++[.x [.u l,.b s]]⟩) (by rw [←hG];cbv) hs1).mono ?_
 rintro c E1 H1 ⟨s1,m1,⟨rfl,rfl⟩,hs2⟩
 refine ⟨rfl,?_⟩
 have hwl:out.length<2^20:=by omega
 have hnl:(nB l).length≤128:=by
  unfold nB;split
  ·exact (chk_zero (by assumption)).2.1
  ·decide
 have hne:nB l≠[]:=by
  unfold nB;split
  ·exact (chk_zero (by assumption)).1
  ·decide
 have hk:∀ kk:Ctl→SX.St→Prop,(∀ s1,(out++nB l).length≤128→Le s1 ⟨T.nil,objC (out++nB l)⟩→kk .normal s1)→(∀ s1,128<(out++nB l).length→Le s1 ⟨T.nil,objF⟩→kk .ret s1) →
   W (std CX TB B D) TB IR.cat.ibody ⟨((env4.set 13 (.i .i64 j)).set 14 (.a [.u l,.b s])).set 6 (.o 4 0),objC out++[.x [.u l,.b s]]⟩ kk:=by
  intro kk k1 k2
  rw [←hG]
  cbv
  refine call hG [] (norm_ok l s hl) ⟨rfl,rfl,rfl⟩ ?_
  rintro _ _ ⟨M,t,rfl,rfl,hM,ht⟩
  cbv
  rw [←hM] at hnl hne k1 k2
  have hap:G.ap (G.lu out) (G.lu M):=by rw [hG];simp only [std];omega
  have eap:G.apu out M=out++M:=by rw [hG];rfl
  have hMp:=List.length_pos_iff.2 hne
  refine ⟨hap,okd hG (by kernel_rfl) ?_⟩
  refine call hG [] (width_ok (G.lu (G.apu out M))) ⟨rfl,rfl,rfl⟩ ?_
  rintro _ _ ⟨c,rfl,rfl,hc⟩
  cbv
  have ec:c=decide ((out++M).length≤128):=by
   rw [hc,eap,hG]
   show (decide (1≤((out++M).length:Int))&&decide (((out++M).length:Int)≤128))=_
   have h1:1≤(out++M).length:=by rw [List.length_append];omega
   by_cases h2:(out++M).length≤128
   ·simp only [decide_eq_true h2,Bool.and_eq_true,decide_eq_true_eq];omega
   ·simp only [decide_eq_false h2,Bool.and_eq_false_iff,decide_eq_false_iff_not];omega
  refine SX.ite hG (fun h1=>?_) (fun h1=>?_)
  ·have e:c=false:=by rw [hG] at h1;simpa [std] using h1
   have h2:¬ (out++M).length≤128:=of_decide_eq_false (by rw [←ec,e])
   exact k2 _ (Nat.lt_of_not_le h2) (by constructor<;>cbv<;>simp)
  ·have e:c=true:=by rw [hG] at h1;simpa [std] using h1
   have h2:(out++M).length≤128:=of_decide_eq_true (by rw [←ec,e])
   rw [←eap] at h2 k1
   exact k1 _ h2 (by constructor<;>cbv<;>simp)
 refine (W_ok (ic:=IR.cat.ibody) (k:=fun c s1=>(c=.normal∧(out++nB l).length≤128∧Le s1 ⟨T.nil,objC (out++nB l)⟩)∨(c=.ret∧128<(out++nB l).length∧Le s1 ⟨T.nil,objF⟩)) (hk _ (fun s1 h1 h2=>.inl ⟨rfl,h1,h2⟩) (fun s1 h1 h2=>.inr ⟨rfl,h1,h2⟩)) hs2).mono ?_
 ·rintro c E2 H2 ⟨s2,m2,⟨rfl,h1,h2⟩ | ⟨rfl,h1,h2⟩,hs3⟩
  ·refine .inl ⟨rfl,.inl ⟨rfl,h1,_,hf.env (hs3.leD h2 fun i v hv=>?_)⟩⟩
   match i,hm i v hv with
   | 0,_=>exact ⟨_,rfl⟩
   | 1,_=>exact ⟨_,rfl⟩
   | 2,_=>exact ⟨_,rfl⟩
  ·have h3:=hs3.noFix.le h2
   obtain ⟨i2,i3,i4,k2,k3,k4,g2,g3,g4⟩:=hf.ids
   refine .inr ⟨rfl,.inr ⟨rfl,h1,_,h3.reEnv fun t x hx=>?_⟩⟩
   have f2:=(hs3.fix 0 _ k2).1
   have f3:=(hs3.fix 1 _ k3).1
   simp only [T.get_set] at hx
   split at hx
   ·cases hx;rename_i e;subst e;exact ⟨_,g3,_,by rw [List.getElem?_take,if_pos (by decide)];exact f3,rfl⟩
   split at hx
   ·cases hx;rename_i e;subst e;exact ⟨_,g2,_,by rw [List.getElem?_take,if_pos (by decide)];exact f2,rfl⟩
   ·simp at hx
end Go.Proofs.YtdgbdkfoeaollaaGreatDoor.V0
end
section
set_option linter.unusedSimpArgs false
set_option linter.unusedVariables false
namespace Go.Proofs.YtdgbdkfoeaollaaGreatDoor.V
open Go Go.AL Go.SX
def RVE (l:List Int) (sg:Bool) (r:SV) (ro:List SX.Obj):Prop:=∃ l' sg',r=.t [.a [.s 0,.b sg'],.n .i64 0]∧ro=[.u l']∧l'=l∧sg'=sg
theorem kre {k:Nat} {args:List SV} {ao:List SX.Obj} {c:Bool} {l:List Int} {sg:Bool} {e:Int} (h:FvC CX TB (.f k [] []) args ao (RE c l sg e)) (hc:c=true):FvC CX TB (.f k [] []) args ao (RVE l sg):=by
 intro H m vf vs h1 h2 h3 h4
 obtain ⟨k',fs,cs,e',hr⟩:=h H m vf vs h1 h2 h3 h4
 refine ⟨k',fs,cs,e',hr.mono ?_⟩
 rintro v H' ⟨m',r,ro,q,q1,q2,q3,q4,q5⟩
 rcases q with ⟨_,l',sg',e1,rfl,rfl,hl,hs,rfl⟩ | ⟨hf,_⟩
 ·exact ⟨m',_,_,⟨l',sg',rfl,rfl,hl,hs⟩,q1,q2,q3,q4,q5⟩
 ·rw [hc] at hf;cases hf
end Go.Proofs.YtdgbdkfoeaollaaGreatDoor.V
end
section
set_option linter.unusedSimpArgs false
set_option linter.unusedVariables false
namespace Go.Proofs.YtdgbdkfoeaollaaGreatDoor.V
open Go Go.AL Go.SX
theorem bFromInt_ok (n:Int) (w:Nat) (W:Int) (hW:W=(w:Int)) (hw:w≤128) (h:I64 n):FvC CX TB (.f 103 [] []) [.i .i64 n,.i .i64 W] [] (fun r ro=>∃ l e,r=.t [.bl l,.i .i64 e]∧ro=[]∧l=X.ofI w n∧e=0):=
 br_any fun H vs hd=>by
  obtain ⟨v1,ws,rfl,h1,v2,ws',rfl,h2,rfl⟩:=hd
  subst h1 h2 hW
  exact (X.bFromInt_any ext0V h.1 (by have:=h.2;omega)).mono fun r H' ⟨h3,h4⟩=>by
   rw [if_neg (by omega)] at h4
   obtain ⟨v,rfl,h5⟩:=h4
   rw [Int.toNat_natCast] at h5
   exact ⟨h3,_,⟨_,_,rfl,rfl,rfl,rfl⟩,_,rfl,_,_,rfl,isR_rdS h5,_,_,rfl,rfl,rfl⟩
theorem fromInt_ok (n w:Int) (s:Bool) (h:I64 n):FvC CX TB (.f 20 [] []) [.i .i64 n,.i .i64 w,.b s] [] (RE (okW w) (intL (X.ofI w.toNat n)) s 12):=by
 refine fn_ok rfl rfl fun B D G hG q hq=>?_
 cbv
 refine call hG [] (width_ok w) ⟨rfl,rfl,rfl⟩ ?_
 rintro _ _ ⟨c,rfl,rfl,hc⟩
 cbv
 refine SX.ite hG (fun h1=>?_) (fun h1=>?_)
 ·have e:c=false:=by rw [hG] at h1;simpa [std] using h1
  exact hq _ _ (.inr ⟨by rw [←hc];exact e,_,_,rfl,rfl,rfl,rfl⟩)
 have e:c=true:=by rw [hG] at h1;simpa [std] using h1
 have hw:1≤w∧w≤128:=by
  rw [hc] at e
  unfold okW at e
  simpa using e
 have hW:w=((w.toNat:Nat):Int):=by omega
 refine call hG [] (bFromInt_ok n w.toNat w hW (by omega) h) ⟨rfl,rfl,rfl⟩ ?_
 rintro _ _ ⟨l,z,rfl,rfl,hl,hz⟩
 cbv
 refine call hG [] (vector_ok l s (by rw [hl,X.ofI_length];omega)) ⟨rfl,rfl,rfl⟩ ?_
 rintro _ _ ⟨M,t,rfl,rfl,hM,ht⟩
 cbv
 exact hq _ _ (.inl ⟨by rw [←hc];exact e,_,_,_,rfl,rfl,by rw [hM,hl],ht,hz⟩)
theorem kri {k:Nat} {args:List SV} {ao:List SX.Obj} {a:Int} {b:Bool} (h:FvC CX TB (.f k [] []) args ao (RIB a b)) (e:b=true):FvC CX TB (.f k [] []) args ao (fun r ro=>∃ x,r=.t [.i .i64 x,.kb true]∧ro=[]∧x=a):=by
 intro H m vf vs h1 h2 h3 h4
 obtain ⟨k',fs,cs,e',hr⟩:=h H m vf vs h1 h2 h3 h4
 refine ⟨k',fs,cs,e',hr.mono ?_⟩
 rintro v H' ⟨m',r,ro,⟨x,y,rfl,rfl,hx,hy⟩,q1,q2,q3,q4,q5⟩
 rw [e] at hy
 subst hy
 exact ⟨m',_,[],⟨x,rfl,rfl,hx⟩,q1,q2,q3,q4,q5⟩
theorem i64_wrap (x:Int):I64 (IntKind.wrap .i64 x):=by
 rw [←fwrap_eq,X.e64]
 have h1:=Int.emod_lt_of_pos x (X.p2pos 64)
 have h0:=X.emod_nn x 64
 unfold I64
 split<;>omega
theorem i64_fw (x:Int):I64 (fwrap .i64 x):=by rw [fwrap_eq];exact i64_wrap x
theorem vint_I (l:List Bool) (s:Bool) (h1:1≤l.length) (h2:l.length≤62):FvC CX TB (.f 59 [] []) [.a [.u (intL l),.b s]] [] (fun r ro=>∃ x,r=.t [.i .i64 x,.kb true]∧ro=[]∧x=vv s l):=by
 have nv:=intL_nv h1 (by omega)
 have r:=(vv_rng s h1 (by omega:l.length≤64)).up h2 (by decide)
 have hr:-(2:Int)^63≤vv s l∧vv s l<(2:Int)^63:=by
  cases s with
  | true=>obtain ⟨_,_,a,b⟩:=(show X.Sg 62 (vv true l) from r);omega
  | false=>obtain ⟨_,_,a,b⟩:=(show 1≤62∧62≤64∧0≤vv false l∧vv false l<(2:Int)^62 from r);omega
 have h:=vint_ok (intL l) s (by rw [intL_len];omega) (byt_nv nv)
 rw [nB_id nv,nS_id nv,intL_kn,if_pos rfl,vval_intL,Bool.true_and] at h
 have:=kri h (by unfold fitB;exact decide_eq_true hr)
 unfold fitI at this
 rwa [if_pos hr] at this
end Go.Proofs.YtdgbdkfoeaollaaGreatDoor.V
end
