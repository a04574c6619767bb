/- The reference's Fill; the operators' tables; a loop's state cut down. -/
import Derived.Test.YtdgbdkfoeaollaaGreatDoorVZd
import Derived.Test.YtdgbdkfoeaollaaGreatDoorALe
import Derived.Test.YtdgbdkfoeaollaaGreatDoorVG
import Derived.Test.YtdgbdkfoeaollaaGreatDoorVA
section
set_option linter.unusedSimpArgs false
set_option linter.unusedVariables false
set_option maxRecDepth 100000
namespace Go.Proofs.YtdgbdkfoeaollaaGreatDoor.V
open Go Go.AL Go.SX
theorem lp_le {B:AH} {d:Nat→Prop} {G:Sg} {b:IC} {s s':SX.St} {k:Ctl→SX.St→Prop} (hG:G=std CX TB B ⟨d,fun _=>none⟩) (hl:Le s s') (h:G.lp b s' k):G.lp b s k:=by
 subst hG
 exact fun m E H hs=>h _ E H (hs.le hl)
theorem rfill_ok (b w:Int) (s:Bool) (hw:1≤w∧w<2^15):FvC CX TB (.f 19 [] []) [.i .u8 b,.i .i64 w,.b s] [] (RV (List.replicate w.toNat b) s):=by
 obtain ⟨W,hW⟩:∃ W:Nat,w=(W:Int):=⟨w.toNat,by omega⟩
 have hWlt:W<2^15:=by omega
 refine fn_ok rfl rfl fun B D G hG q hq=>?_
 cbv
 refine lp_regB hG 1 0 (.u []) rfl rfl ?_
 refine lp hG (α:=Int×List Int) (fun p=>∃ n:Nat,p.1=(n:Int)∧n≤W∧p.2=List.replicate n b) (fun p=>W-p.1.toNat) (fun s p=>(s.put (some 8) (.i .i64 p.1)).setO 2 (.u p.2)) (0,[]) ⟨0,rfl,Nat.zero_le _,rfl⟩ (by constructor<;>cbv<;>simp) ?_
 rintro ⟨j,L⟩ ⟨n,hj,hn,hL⟩
 have hL:L=List.replicate n b:=hL
 have hlen:L.length=n:=by rw [hL,List.length_replicate]
 cbv
 have hj:j=(n:Int):=hj
 refine SX.ite hG (fun h3=>?_) (fun h3=>?_)
 ·have h3:n<W:=by
   rw [hG,hj,hW] at h3
   have h3:(n:Int)<(W:Int):=of_decide_eq_true h3
   omega
  have hap:∀ x:Int,G.ap (G.lu L) (G.lu [x]):=fun x=>by subst hG;simp only [std];simp;omega
  have e:G.apu L [b]=List.replicate (n+1) b:=by rw [List.replicate_succ',←hL,hG];rfl
  refine ⟨hap _,?_⟩
  exact ⟨(G.ar .add .i64 j (Int.ofNat 1),G.apu L [b]),⟨n+1,inc hG hj (by omega),h3,e⟩,mu hj (inc hG hj (by omega)) h3,by constructor<;>cbv<;>simp⟩
 ·have h3:W≤n:=by
   rw [hG,hj,hW] at h3
   have h3:¬ (n:Int)<(W:Int):=of_decide_eq_false h3
   omega
  refine hq _ _ ⟨_,_,rfl,rfl,?_,rfl⟩
  rw [hL,hW,show n=W by omega];rfl
end Go.Proofs.YtdgbdkfoeaollaaGreatDoor.V
end
section
set_option linter.unusedSimpArgs false
set_option linter.unusedVariables false
namespace Go.Proofs.YtdgbdkfoeaollaaGreatDoor.V
open Go Go.AL Go.SX
def repC (l:List Int) (n:Int):Bool:=decide (1≤n∧n≤128 / (l.length:Int))
theorem repeat2_ok (l:List Int) (s:Bool) (n:Int) (hl:l.length<2^15) (hb:Byt l):FvC CX TB (.f 25 [] []) [.a [.u l,.b s],.i .i64 n] [] (RE (repC (nB l) n) (repL (nB l) n.toNat) false (if n<1 then 1 else 12)):=by
 have nv:=nB_nv hb
 refine fn_ok rfl rfl fun B D G hG q hq=>?_
 cbv
 refine call hG [] (norm_ok l s hl) ⟨rfl,rfl,rfl⟩ ?_
 rintro _ _ ⟨M,t,rfl,rfl,hM,ht⟩
 cbv
 have nvM:NV M:=by rw [hM];exact nv
 have hlen:=nvM.len
 have hpos:=List.length_pos_iff.2 nvM.ne
 rw [←hM] at hq
 refine SX.ite hG (fun h1=>?_) (fun h1=>?_)
 ·have h1:n<1:=by rw [hG] at h1;exact of_decide_eq_true h1
  exact hq _ _ (.inr ⟨decide_eq_false (fun h=>by omega),_,_,rfl,rfl,rfl,by rw [if_pos h1];rfl⟩)
 have h1:¬ n<1:=by rw [hG] at h1;exact of_decide_eq_false h1
 have n0:G.ne0 (G.lu M):=by rw [hG];show ((M.length:Nat):Int)≠0;omega
 have e1:G.ar .quo .i64 (Int.ofNat 128) (G.lu M)=128 / (M.length:Int):=by
  rw [hG]
  show fwrap .i64 ((128:Int).tdiv ((M.length:Nat):Int))=_
  rw [Int.tdiv_eq_ediv_of_nonneg (by decide)]
  have h2:(128:Int) / ((M.length:Nat):Int)=((128 / M.length:Nat):Int):=by rw [Int.natCast_ediv];rfl
  have h3:128 / M.length≤128:=Nat.div_le_self _ _
  rw [h2]
  generalize 128 / M.length=d at h3
  exact fwi (by omega)
 refine ⟨n0,?_⟩
 have h3:128 / M.length≤128:=Nat.div_le_self _ _
 have h4:(128:Int) / ((M.length:Nat):Int)=((128 / M.length:Nat):Int):=by rw [Int.natCast_ediv];rfl
 refine SX.ite hG (fun h2=>?_) (fun h2=>?_)
 ·have h2:G.cmp .gtr n (G.ar .quo .i64 (Int.ofNat 128) (G.lu M))=true:=h2
  have h2:n > 128 / (M.length:Int):=by rw [e1,hG] at h2;exact of_decide_eq_true h2
  exact hq _ _ (.inr ⟨decide_eq_false (fun h=>absurd h.2 (Int.not_le.2 h2)),_,_,rfl,rfl,rfl,by rw [if_neg h1];rfl⟩)
 have h2:G.cmp .gtr n (G.ar .quo .i64 (Int.ofNat 128) (G.lu M))=false:=h2
 have h2:¬ n > 128 / (M.length:Int):=by rw [e1,hG] at h2;exact of_decide_eq_false h2
 have h5:n≤128:=by
  rw [h4] at h2
  generalize 128 / M.length=d at h2 h3
  omega
 refine call hG [] (repeat_ok M n (by omega) (by omega)) ⟨rfl,rfl,rfl⟩ ?_
 rintro _ _ ⟨L,rfl,rfl,hL⟩
 cbv
 exact hq _ _ (.inl ⟨decide_eq_true ⟨Int.not_lt.1 h1,Int.not_lt.1 h2⟩,_,_,_,rfl,rfl,hL,rfl,rfl⟩)
def blwF (x y:Int):Bool:=bLeq (bBuf x) (bBuf y)
end Go.Proofs.YtdgbdkfoeaollaaGreatDoor.V
end
section
set_option linter.unusedSimpArgs false
set_option linter.unusedVariables false
namespace Go.Proofs.YtdgbdkfoeaollaaGreatDoor.V
open Go Go.AL Go.SX
def Rf (l m:List Int):Prop:=l.length=m.length∧∀ i:Nat,i<l.length→bLeq (gu l i) (gu m i)=true
theorem bLeq_refl (x:Int):bLeq x x=true:=by unfold bLeq bSame;simp
theorem bLeq_blw {x y:Int} (hx:V4 x) (hy:V4 y) (h:bLeq x y=true):blwF x y=true:=by
 rcases hx.cases with rfl | rfl | rfl | rfl<;>rcases hy.cases with rfl | rfl | rfl | rfl<;>revert h<;>decide
theorem Rf.refl (l:List Int):Rf l l:=⟨rfl,fun i _=>bLeq_refl _⟩
theorem gu_rsz {l:List Int} {s:Bool} {w i:Nat} (h:i<w):gu (rsz l s w) i=if i<l.length then gu l i else top l s:=by
 unfold rsz
 split
 ·rw [gu_take h,if_pos (by omega)]
 ·rw [gu_app]
  split
  ·rfl
  ·rename_i h2
   unfold gu
   rw [Int.toNat_natCast,List.getElem?_replicate,if_pos (by omega)];rfl
theorem Rf.top {l m:List Int} (h:Rf l m) (hl:l≠[]) (s:Bool):bLeq (top l s) (top m s)=true:=by
 unfold V.top
 split
 ·rw [←h.1];exact h.2 _ (by have:=List.length_pos_iff.2 hl;omega)
 ·exact bLeq_refl _
theorem Rf.rsz {l m:List Int} (h:Rf l m) (hl:l≠[]) (s:Bool) (w:Nat):Rf (rsz l s w) (rsz m s w):=by
 refine ⟨by rw [rsz_len,rsz_len],fun i hi=>?_⟩
 rw [rsz_len] at hi
 rw [gu_rsz hi,gu_rsz hi,←h.1]
 split
 ·exact h.2 i (by assumption)
 ·exact h.top hl s
theorem Rf.app {l m l' m':List Int} (h:Rf l m) (h':Rf l' m'):Rf (l++l') (m++m'):=by
 refine ⟨by rw [List.length_append,List.length_append,h.1,h'.1],fun i hi=>?_⟩
 rw [List.length_append] at hi
 rw [gu_app,gu_app,←h.1]
 split
 ·exact h.2 i (by assumption)
 ·exact h'.2 _ (by omega)
theorem Rf.repL {l m:List Int} (h:Rf l m) (hl:l≠[]) (n:Nat):Rf (repL l n) (repL m n):=by
 refine ⟨by rw [repL_len,repL_len,h.1],fun i hi=>?_⟩
 rw [repL_len] at hi
 rw [repL_get hi,repL_get (by rw [←h.1];exact hi),←h.1]
 exact h.2 _ (Nat.mod_lt _ (List.length_pos_iff.2 hl))
theorem Rf.slc {l m:List Int} (h:Rf l m) (hi lo:Int):Rf (slc l hi lo) (slc m hi lo):=by
 refine ⟨by rw [slc_len,slc_len],fun i hi=>?_⟩
 rw [slc_len] at hi
 rw [slc_get hi,slc_get hi]
 unfold slF
 rw [←h.1]
 split
 ·rename_i h2
  obtain ⟨k,hk⟩:∃ k:Nat,lo+(i:Int)=(k:Int):=⟨(lo+(i:Int)).toNat,by omega⟩
  rw [hk];exact h.2 k (by omega)
 ·exact bLeq_refl _
theorem Rf.putL {l m l' m':List Int} (h:Rf l m) (h':Rf l' m') (lo:Int):Rf (putL l lo l') (putL m lo m'):=by
 refine ⟨by rw [putL_len,putL_len,h.1],fun i hi=>?_⟩
 rw [putL_len] at hi
 rw [putL_get hi,putL_get (by rw [←h.1];exact hi)]
 unfold ptF
 rw [←h'.1]
 split
 ·rename_i h2
  obtain ⟨k,hk⟩:∃ k:Nat,(i:Int)-lo=(k:Int):=⟨((i:Int)-lo).toNat,by omega⟩
  rw [hk];exact h'.2 k (by omega)
 ·exact h.2 i hi
end Go.Proofs.YtdgbdkfoeaollaaGreatDoor.V
end
section
set_option linter.unusedSimpArgs false
set_option linter.unusedVariables false
set_option maxRecDepth 100000
namespace Go.Proofs.YtdgbdkfoeaollaaGreatDoor.V
open Go Go.AL Go.SX
def RB4 (l m:List Int):Prop:=l.length=m.length∧∀ i:Nat,i<l.length→blwF (gu l i) (gu m i)=true
theorem blwF_refl (x:Int):blwF x x=true:=by unfold blwF;exact bLeq_refl _
theorem RB4.refl (l:List Int):RB4 l l:=⟨rfl,fun _ _=>blwF_refl _⟩
theorem Rf.rb {l m:List Int} (h:Rf l m) (hl:NV l) (hm:NV m):RB4 l m:=⟨h.1,fun i hi=>bLeq_blw (hl.v _ (gu_mem hi)) (hm.v _ (gu_mem (by rw [←h.1];exact hi))) (h.2 i hi)⟩
theorem RB4.one {x y:Int} (h:blwF x y=true):RB4 [x] [y]:=⟨rfl,fun i hi=>by
 have:i=0:=by simpa using hi
 subst this;exact h⟩
def Mn2 (f:Int→Int→Int):Prop:=∀ x x' y y',V4 x→V4 x'→V4 y→V4 y'→blwF x x'=true→blwF y y'=true→blwF (f x y) (f x' y')=true
theorem mnNot {x x':Int} (h1:V4 x) (h2:V4 x') (h:blwF x x'=true):blwF (bNot x) (bNot x')=true:=by
 rcases h1.cases with rfl | rfl | rfl | rfl<;>rcases h2.cases with rfl | rfl | rfl | rfl<;>revert h<;>decide
theorem RB4.map {l m:List Int} (hl:NV l) (hm:NV m) (h:RB4 l m):RB4 (l.map bNot) (m.map bNot):=by
 refine ⟨by simp [h.1],fun i hi=>?_⟩
 have hi:i<l.length:=by simpa using hi
 rw [gu_map hi,gu_map (by rw [←h.1];exact hi)]
 exact mnNot (hl.v _ (gu_mem hi)) (hm.v _ (gu_mem (by rw [←h.1];exact hi))) (h.2 i hi)
theorem foldl_mn {f:Int→Int→Int} (hf:Mn2 f) (h4:∀ x y,V4 x→V4 y→V4 (f x y)):∀ {l m:List Int} {a b:Int},V4 a→V4 b→(∀ x∈l,V4 x)→(∀ x∈m,V4 x)→RB4 l m→blwF a b=true→blwF (l.foldl f a) (m.foldl f b)=true
 | [],[],a,b,_,_,_,_,_,h=>h
 | [],y::m,a,b,_,_,_,_,h,_=>by cases h.1
 | x::l,[],a,b,_,_,_,_,h,_=>by cases h.1
 | x::l,y::m,a,b,ha,hb,hl,hm,h,hab=>by
   rw [List.foldl_cons,List.foldl_cons]
   have h0:blwF x y=true:=h.2 0 (by simp)
   refine foldl_mn hf h4 (h4 _ _ ha (hl x (by simp))) (h4 _ _ hb (hm y (by simp))) (fun z hz=>hl z (by simp [hz])) (fun z hz=>hm z (by simp [hz])) ⟨by simpa using h.1,fun i hi=>?_⟩ (hf _ _ _ _ ha hb (hl x (by simp)) (hm y (by simp)) hab h0)
   have:=h.2 (i+1) (by simpa using hi)
   have g:∀ (z:Int) (k:List Int),gu (z::k) ((i+1:Nat):Int)=gu k i:=fun z k=>by unfold gu;rw [Int.toNat_natCast,Int.toNat_natCast,List.getElem?_cons_succ]
   rw [g,g] at this
   exact this
theorem blwBuf {x y:Int} (hx:V4 x) (hy:V4 y) (h:blwF x y=true):blwF (bBuf x) (bBuf y)=true:=by
 rcases hx.cases with rfl | rfl | rfl | rfl<;>rcases hy.cases with rfl | rfl | rfl | rfl<;>revert h<;>decide
theorem RB4.drop {l m:List Int} (h:RB4 l m) (k:Nat):RB4 (l.drop k) (m.drop k):=by
 refine ⟨by rw [List.length_drop,List.length_drop,h.1],fun i hi=>?_⟩
 rw [List.length_drop] at hi
 rw [gu_drop,gu_drop]
 exact h.2 _ (by omega)
theorem RB4.fld {f:Int→Int→Int} (hf:Mn2 f) (h4:∀ x y,V4 x→V4 y→V4 (f x y)) {l m:List Int} (hl:NV l) (hm:NV m) (h:RB4 l m):blwF (fld f l) (fld f m)=true:=by
 have pl:=List.length_pos_iff.2 hl.ne
 have pm:=List.length_pos_iff.2 hm.ne
 have a:=hl.v _ (gu_mem (n:=0) pl)
 have b:=hm.v _ (gu_mem (n:=0) pm)
 exact foldl_mn hf h4 (bBuf_4 a.1) (bBuf_4 b.1) (fun x hx=>hl.v x (List.mem_of_mem_drop hx)) (fun x hx=>hm.v x (List.mem_of_mem_drop hx)) (h.drop 1) (blwBuf a b (h.2 0 pl))
theorem RB4.rsz {l m:List Int} (h:RB4 l m) (hl:l≠[]) (s:Bool) (w:Nat):RB4 (rsz l s w) (rsz m s w):=by
 refine ⟨by rw [rsz_len,rsz_len],fun i hi=>?_⟩
 rw [rsz_len] at hi
 rw [gu_rsz hi,gu_rsz hi,←h.1]
 split
 ·exact h.2 i (by assumption)
 ·unfold top
  split
  ·rw [←h.1];exact h.2 _ (by have:=List.length_pos_iff.2 hl;omega)
  ·exact blwF_refl _
structure Op2 (l l' m m':List Int):Prop where
 nl:NV l
 nl':NV l'
 nm:NV m
 nm':NV m'
 rl:Rf l l'
 rm:Rf m m'
theorem intL_v4 (l:List Bool):∀ x∈intL l,V4 x:=fun x hx=>by
 obtain ⟨b,_,rfl⟩:=List.mem_map.1 hx
 exact ofB_4 b
end Go.Proofs.YtdgbdkfoeaollaaGreatDoor.V
end
section
set_option linter.unusedSimpArgs false
set_option linter.unusedVariables false
namespace Go.Proofs.YtdgbdkfoeaollaaGreatDoor.V
open Go Go.AL Go.SX
theorem intL_nv {l:List Bool} (h1:1≤l.length) (h2:l.length≤128):NV (intL l):=
 ⟨by intro e;have:=congrArg List.length e;rw [intL_len] at this;simp at this;rw [this] at h1;simp at h1,by rw [intL_len];exact h2,intL_v4 l⟩
def Rng (g:Bool) (w:Nat) (i:Int):Prop:=if g then X.Sg w i else 1≤w∧w≤64∧0≤i∧i<(2:Int)^w
theorem Rng.up {g:Bool} {w W:Nat} {i:Int} (h:Rng g w i) (hw:w≤W) (hW:W≤64):Rng g W i:=by
 cases g with
 | true=>
   obtain ⟨h1,h2,h3,h4⟩:=(show X.Sg w i from h)
   have a:=Nat.pow_le_pow_right (show 0<2 by decide) (show w-1≤W-1 by omega)
   have b:=X.p2 (w-1)
   have c:=X.p2 (W-1)
   exact (show X.Sg W i from ⟨by omega,hW,by omega,by omega⟩)
 | false=>
   obtain ⟨h1,h2,h3,h4⟩:=(show 1≤w∧w≤64∧0≤i∧i<(2:Int)^w from h)
   have a:=Nat.pow_le_pow_right (show 0<2 by decide) hw
   have b:=X.p2 w
   have c:=X.p2 W
   exact (show 1≤W∧W≤64∧0≤i∧i<(2:Int)^W from ⟨by omega,hW,h3,by omega⟩)
structure Two (A B:List Bool):Prop where
 a1:1≤A.length
 a3:A.length≤128
 b1:1≤B.length
 b3:B.length≤128
structure T64 (A B:List Bool):Prop extends Two A B where
 a2:A.length≤64
 b2:B.length≤64
def wd (A B:List Bool):Nat:=Nat.max A.length B.length
section
variable {A B:List Bool} {s t:Bool}
theorem Two.nvA (h:Two A B):NV (intL A):=intL_nv h.a1 h.a3
theorem T64.wl (h:T64 A B):wd A B≤64:=Nat.max_le.2 ⟨h.a2,h.b2⟩
theorem T64.w1 (h:T64 A B):1≤wd A B:=Nat.le_trans h.a1 (Nat.le_max_left _ _)
end
end Go.Proofs.YtdgbdkfoeaollaaGreatDoor.V
end
section
set_option linter.unusedSimpArgs false
set_option linter.unusedVariables false
namespace Go.Proofs.YtdgbdkfoeaollaaGreatDoor.V0
open Go Go.AL Go.SX Go.Proofs.YtdgbdkfoeaollaaGreatDoor.V
noncomputable abbrev CX:Ctx:=⟨IR.ft,noExt⟩
theorem inc {B:AH} {D:Bs} {G:Sg} (hG:G=std CX TB B D) {j:Int} {n:Nat} (hj:j=(n:Int)) (hn:n<2^40):G.ar .add .i64 j (Int.ofNat 1)=((n+1:Nat):Int):=by
 subst hG hj
 show fwrap .i64 ((n:Int)+1)=_
 rw [fwi (by omega)];rfl
theorem addi {B:AH} {D:Bs} {G:Sg} (hG:G=std CX TB B D) {a b:Int} (h:-(2^62)≤a+b∧a+b<2^62):G.ar .add .i64 a b=a+b:=by
 subst hG;exact fwi h
theorem valid_ok (x:Int):FvC CX TB (.f 110 [] []) [.i .u8 x] [] (RB (decide (x≤3))):=by
 refine fn_ok rfl rfl fun B D G hG q hq=>?_
 cbv
 subst hG
 exact hq _ _ ⟨_,rfl,rfl,rfl⟩
theorem clone_ok (l:List Int) (hl:l≠[]) (hn:l.length<2^20):FvC CX TB (.f 163 [] []) [.u l] [] (RU l):=by
 refine fn_ok rfl rfl fun B D G hG q hq=>?_
 cbv
 subst hG
 exact ⟨fun h=>absurd h hl,by simp only [std];omega,hq _ _ ⟨_,rfl,rfl,rfl⟩⟩
theorem check_ok (l:List Int) (s:Bool):FvC CX TB (.f 28 [] []) [.a [.u l,.b s]] [] (RI .i64 (chk l)):=by
 refine fn_ok rfl rfl fun B D G hG q hq=>?_
 cbv
 refine SX.ite hG (fun h1=>?_) (fun h1=>?_)
 ·have h1:l.length=0:=by simpa [hG,std,cmpS,arS,beqS] using h1
  exact hq _ _ ⟨_,rfl,rfl,by simp [chk,h1]⟩
 have h1:l.length≠0:=by simpa [hG,std,cmpS,arS,beqS] using h1
 refine SX.ite hG (fun h2=>?_) (fun h2=>?_)
 ·have h2:128<l.length:=by have hq_:=h2;simp [hG,std,cmpS,arS,beqS] at hq_;omega
  exact hq _ _ ⟨_,rfl,rfl,by rw [chk,if_neg h1,if_pos (by omega)];rfl⟩
 have h2:l.length≤128:=by have hq_:=h2;simp [hG,std,cmpS,arS,beqS] at hq_;omega
 have hchk:chk l=if l.all (fun x=>decide (x≤3)) then 0 else 1:=by rw [chk,if_neg h1,if_neg (by omega)]
 refine lp hG (α:=Int) (fun j=>∃ n:Nat,j=(n:Int)∧n≤l.length∧∀ i:Nat,i<n→gu l i≤3) (fun j=>l.length-j.toNat) (fun s j=>s.put (some 18) (.i .i64 j)) 0 ⟨0,rfl,Nat.zero_le _,by simp⟩ (by constructor<;>cbv<;>simp) ?_
 rintro j ⟨n,hj,hn,hi⟩
 cbv
 refine SX.ite hG (fun h3=>?_) (fun h3=>?_)
 ·have h3:n<l.length:=by simpa [hG,std,cmpS,arS,beqS,hj] using h3
  refine ⟨by simp [hG,std,hj,h3],?_⟩
  refine call hG [] (valid_ok _) ⟨rfl,rfl,rfl⟩ ?_
  rintro _ _ ⟨c,rfl,rfl,hc⟩
  cbv
  have hgu:G.gu l j=gu l n:=by rw [hG,hj];rfl
  rw [hgu] at hc
  refine SX.ite hG (fun h4=>?_) (fun h4=>?_)
  ·refine hq _ _ ⟨_,rfl,rfl,?_⟩
   rw [hchk,if_neg]
   ·rfl
   ·intro ha
    have:=List.all_eq_true.1 ha _ (gu_mem h3)
    simp [hG,std,hc] at h4 this
    omega
  ·exact ⟨G.ar .add .i64 j (Int.ofNat 1),⟨n+1,inc hG hj (by omega),h3,fun i hlt=>by rcases Nat.lt_succ_iff_lt_or_eq.1 hlt with h | rfl;exact hi i h;simpa [hG,std,hc] using h4⟩,mu hj (inc hG hj (by omega)) h3,by constructor<;>cbv<;>simp⟩
 ·have h3:l.length≤n:=by simpa [hG,std,cmpS,arS,beqS,hj] using h3
  refine hq _ _ ⟨_,rfl,rfl,?_⟩
  rw [hchk,if_pos (all_gu fun i hlt=>decide_eq_true (hi i (by omega)))]
  rfl
set_option maxRecDepth 8000 in
theorem mul64_ok (x y:Int) (hx:0≤x∧x<2^32) (hy:0≤y∧y<2^32) (hxy:x*y<2^32):FvC CX TB (.f 195 [] []) [.i .u64 x,.i .u64 y] [] (fun r ro=>∃ a b,r=.t [.i .u64 a,.i .u64 b]∧ro=[]∧a=0∧b=x*y):=by
 have hp:0≤x*y:=Int.mul_nonneg hx.1 hy.1
 refine fn_ok rfl rfl fun B D G hG q hq=>?_
 cbv
 subst hG
 have e1:=andm hx
 have e2:=andm hy
 have e3:=shr32 hx
 have e4:=shr32 hy
 have e5:arS .mul .u64 x y=x*y:=fwu ⟨hp,by omega⟩
 have e6:=shr32 ⟨hp,hxy⟩
 have z1:arS .mul .u64 x 0=0:=by show fwrap .u64 (x*0)=0;rw [Int.mul_zero];rfl
 have z2:arS .mul .u64 0 y=0:=by show fwrap .u64 (0*y)=0;rw [Int.zero_mul];rfl
 have z3:arS .add .u64 0 0=0:=rfl
 have z4:arS .and .u64 0 4294967295=0:=by decide
 have z5:shS .shr .u64 0 32=0:=by decide
 have z6:arS .mul .u64 0 0=0:=rfl
 have nn:(0:Int)≤32:=by decide
 refine ⟨nn,nn,nn,nn,nn,hq _ _ ⟨_,_,rfl,rfl,?_,e5⟩⟩
 show arS .add .u64 (arS .add .u64 (arS .mul .u64 (shS .shr .u64 x 32) (shS .shr .u64 y 32)) (shS .shr .u64 (arS .add .u64 (arS .mul .u64 (shS .shr .u64 x 32) (arS .and .u64 y 4294967295)) (shS .shr .u64 (arS .mul .u64 (arS .and .u64 x 4294967295) (arS .and .u64 y 4294967295)) 32)) 32)) (shS .shr .u64 (arS .add .u64 (arS .and .u64 (arS .add .u64 (arS .mul .u64 (shS .shr .u64 x 32) (arS .and .u64 y 4294967295)) (shS .shr .u64 (arS .mul .u64 (arS .and .u64 x 4294967295) (arS .and .u64 y 4294967295)) 32)) 4294967295) (arS .mul .u64 (arS .and .u64 x 4294967295) (shS .shr .u64 y 32))) 32)=0
 simp only [e1,e2,e3,e4,e5,e6,z1,z2,z3,z4,z5,z6]
theorem mul_ok (x y:Int) (hx:0≤x∧x<2^32) (hy:0≤y∧y<2^32) (hxy:x*y<2^32):FvC CX TB (.f 166 [] []) [.i .u64 x,.i .u64 y] [] (fun r ro=>∃ a b,r=.t [.i .u64 a,.i .u64 b]∧ro=[]∧a=0∧b=x*y):=by
 refine fn_ok rfl rfl fun B D G hG q hq=>?_
 cbv
 refine call hG [] (mul64_ok x y hx hy hxy) ⟨rfl,rfl,rfl⟩ ?_
 rintro _ _ ⟨a,b,rfl,rfl,ha,hb⟩
 cbv
 exact hq _ _ ⟨_,_,rfl,rfl,ha,hb⟩
theorem repeat_ok (l:List Int) (c:Int) (hl:l.length<2^15) (hc:0≤c∧c<2^15):FvC CX TB (.f 108 [] []) [.u l,.i .i64 c] [] (RU (repL l c.toNat)):=by
 obtain ⟨c0,hc0,hcl⟩:∃ n:Nat,c=(n:Int)∧n<2^15:=⟨c.toNat,by omega,by omega⟩
 have hT:l.length*c0<2^30:=Nat.lt_of_le_of_lt (Nat.mul_le_mul (Nat.le_of_lt_succ (show l.length<2^15-1+1 by omega)) (Nat.le_of_lt_succ (show c0<2^15-1+1 by omega))) (by decide)
 refine fn_ok rfl rfl fun B D G hG q hq=>?_
 cbv
 refine SX.ite hG (fun h1=>?_) (fun h1=>?_)
 ·exfalso
  rw [hG] at h1
  have h2:c<0:=of_decide_eq_true h1
  omega
 have u1:G.cv .u64 (G.lu l)=(l.length:Int):=by subst hG;show fwrap .u64 (l.length:Int)=_;exact fwu (by omega)
 have u2:G.cv .u64 c=c:=by subst hG;show fwrap .u64 c=_;exact fwu (by omega)
 have hb:(l.length:Int)*c=((l.length*c0:Nat):Int):=by rw [hc0,Int.natCast_mul]
 refine call hG [] (mul_ok (G.cv .u64 (G.lu l)) (G.cv .u64 c) (by rw [u1];omega) (by rw [u2];omega) (by rw [u1,u2,hb];omega)) ⟨rfl,rfl,rfl⟩ ?_
 rintro _ _ ⟨a,b,rfl,rfl,ha,hb2⟩
 cbv
 rw [u1,u2,hb] at hb2
 have hcv:G.cv .i64 b=((l.length*c0:Nat):Int):=by
  have h0:((l.length*c0:Nat):Int)<2^62:=by omega
  subst hG hb2
  exact fwi (x:=((l.length*c0:Nat):Int)) ⟨by omega,h0⟩
 refine SX.ite hG (fun h2=>?_) (fun h2=>?_)
 ·exfalso
  rw [ha,hG] at h2
  cases h2
 refine SX.ite hG (fun h3=>?_) (fun h3=>?_)
 ·exfalso
  rw [hb2,hG] at h3
  have:=of_decide_eq_true h3
  have h4:((l.length*c0:Nat):Int) > 9223372036854775807:=this
  omega
 have hmk:G.mk0 (G.cv .i64 b):=by rw [hcv,hG];exact ⟨Int.natCast_nonneg _,by omega⟩
 refine ⟨hmk,?_⟩
 have q1:G.ru (G.cv .i64 b)=List.replicate (l.length*c0) 0:=by rw [hcv,hG];rfl
 have q2:G.mn (G.lu l) (G.lu (G.ru (G.cv .i64 b)))=((Nat.min l.length (l.length*c0):Nat):Int):=by
  rw [q1,hG]
  show AL.mn (l.length:Int) ((List.replicate (l.length*c0) (0:Int)).length:Int)=_
  rw [List.length_replicate];exact mn_nat _ _
 have q3:G.cp (G.ru (G.cv .i64 b)) 0 (G.tu l (G.mn (G.lu l) (G.lu (G.ru (G.cv .i64 b)))))=cpS (List.replicate (l.length*c0) 0) ((0:Nat):Int) (l.take (Nat.min l.length (l.length*c0))):=by
  rw [q2,q1,hG];rfl
 have hmin:Nat.min l.length (l.length*c0)=if c0=0 then 0 else l.length:=by
  show min l.length (l.length*c0)=_
  split
  ·rename_i e;subst e;simp
  ·rename_i e;exact Nat.min_eq_left (Nat.le_mul_of_pos_right _ (Nat.pos_of_ne_zero e))
 have hml:Nat.min l.length (l.length*c0)≤l.length∧Nat.min l.length (l.length*c0)≤l.length*c0:=⟨Nat.min_le_left _ _,Nat.min_le_right _ _⟩
 have htl:(l.take (Nat.min l.length (l.length*c0))).length=Nat.min l.length (l.length*c0):=by rw [List.length_take];omega
 refine lp hG (α:=Int×List Int) (fun p=>∃ n:Nat,p.1=(n:Int)∧n≤l.length*c0∧p.2.length=l.length*c0∧(n % l.length=0∨n=l.length*c0)∧(∀ i:Nat,i<n→gu p.2 i=gu l (i % l.length:Nat))∧(0<l.length*c0→0<n)) (fun p=>l.length*c0-p.1.toNat) (fun s p=>(s.put (some 8) (.i .i64 p.1)).setO 0 (.u p.2)) (G.mn (G.lu l) (G.lu (G.ru (G.cv .i64 b))),G.cp (G.ru (G.cv .i64 b)) 0 (G.tu l (G.mn (G.lu l) (G.lu (G.ru (G.cv .i64 b)))))) ?_ (by constructor<;>cbv<;>simp) ?_
 ·refine ⟨Nat.min l.length (l.length*c0),q2,hml.2,?_,?_,?_,?_⟩
  ·show (G.cp _ _ _).length=_
   rw [q3,cpS_len (by rw [htl,List.length_replicate];omega),List.length_replicate]
  ·rw [hmin];split
   ·exact .inl (Nat.zero_mod _)
   ·exact .inl (Nat.mod_self _)
  ·intro i hi
   show gu (G.cp _ _ _) i=_
   rw [q3,cpS_get (by rw [htl,List.length_replicate];omega),if_pos (by rw [htl];omega),Nat.sub_zero,gu_take hi,Nat.mod_eq_of_lt (by omega)]
  ·intro h
   rw [hmin]
   have h1:c0≠0:=fun e=>by subst e;simp at h
   have h2:l.length≠0:=fun e=>by rw [e] at h;simp at h
   rw [if_neg h1];omega
 rintro ⟨j,L⟩ ⟨n,hj,hn,hL,hd,hi,hp⟩
 have hj:j=(n:Int):=hj
 have hL:L.length=l.length*c0:=hL
 have hi:∀ i:Nat,i<n→gu L i=gu l (i % l.length:Nat):=hi
 cbv
 have hj:j=(n:Int):=hj
 refine SX.ite hG (fun h4=>?_) (fun h4=>?_)
 ·have h4:n<l.length*c0:=by
   rw [hG] at h4
   have:=of_decide_eq_true h4
   have h5:j<(L.length:Int):=this
   omega
  have r1:G.tu (G.du L 0) j=L.take n:=by rw [hG,hj];rfl
  have r2:G.sb (G.lu L) j=((l.length*c0-n:Nat):Int):=by rw [hG,hj];show (L.length:Int)-(n:Int)=_;omega
  have htn:(L.take n).length=n:=by rw [List.length_take];omega
  have r3:G.mn (G.lu (G.tu (G.du L 0) j)) (G.sb (G.lu L) j)=((Nat.min n (l.length*c0-n):Nat):Int):=by
   rw [r1,r2,hG]
   show AL.mn ((L.take n).length:Int) ((l.length*c0-n:Nat):Int)=_
   rw [htn];exact mn_nat _ _
  have hm:Nat.min n (l.length*c0-n)≤n∧Nat.min n (l.length*c0-n)≤l.length*c0-n:=⟨Nat.min_le_left _ _,Nat.min_le_right _ _⟩
  have hm0:0<Nat.min n (l.length*c0-n):=Nat.lt_min.2 ⟨hp (by omega),by omega⟩
  have htt:((L.take n).take (Nat.min n (l.length*c0-n))).length=Nat.min n (l.length*c0-n):=by rw [List.length_take,htn];omega
  have r4:G.cp L j (G.tu (G.tu (G.du L 0) j) (G.mn (G.lu (G.tu (G.du L 0) j)) (G.sb (G.lu L) j)))=cpS L n ((L.take n).take (Nat.min n (l.length*c0-n))):=by
   rw [r3,r1,hG,hj];rfl
  have r5:G.ar .add .i64 j (G.mn (G.lu (G.tu (G.du L 0) j)) (G.sb (G.lu L) j))=((n+Nat.min n (l.length*c0-n):Nat):Int):=by
   rw [r3,hj,addi hG (by omega)];omega
  have v1:G.le j (G.lu L):=by rw [hG,hj];show 0≤(n:Int)∧(n:Int)≤(L.length:Int);omega
  refine ⟨v1,v1,okd hG rfl ?_⟩
  refine ⟨(G.ar .add .i64 j (G.mn (G.lu (G.tu (G.du L 0) j)) (G.sb (G.lu L) j)),G.cp L j (G.tu (G.tu (G.du L 0) j) (G.mn (G.lu (G.tu (G.du L 0) j)) (G.sb (G.lu L) j)))),⟨n+Nat.min n (l.length*c0-n),r5,by omega,?_,?_,?_,?_⟩,?_,by constructor<;>cbv<;>simp⟩
  ·show (G.cp _ _ _).length=_
   rw [r4,cpS_len (by rw [htt];omega),hL]
  ·by_cases hc:n≤l.length*c0-n
   ·have:Nat.min n (l.length*c0-n)=n:=Nat.min_eq_left hc
    rw [this]
    rcases hd with hd | hd
    ·exact .inl (by rw [Nat.add_mod,hd];exact Nat.zero_mod _)
    ·omega
   ·have:Nat.min n (l.length*c0-n)=l.length*c0-n:=Nat.min_eq_right (by omega)
    rw [this]
    exact .inr (by omega)
  ·intro i hlt
   show gu (G.cp _ _ _) i=_
   rw [r4,cpS_get (by rw [htt];omega),htt]
   by_cases hni:n≤i
   ·rw [if_pos ⟨hni,hlt⟩,gu_take (by omega),gu_take (by omega),hi _ (by omega)]
    rcases hd with hd | hd
    ·have:(i-n) % l.length=i % l.length:=by
      obtain ⟨k,hk⟩:=Nat.dvd_of_mod_eq_zero hd
      rw [hk,Nat.sub_mul_mod]
      rw [←hk];exact hni
     rw [this]
    ·omega
   ·rw [if_neg (by omega)];exact hi i (by omega)
  ·intro _;omega
  ·show l.length*c0-(G.ar _ _ _ _).toNat<l.length*c0-j.toNat
   rw [r5,hj,Int.toNat_natCast,Int.toNat_natCast];omega
 ·have h4:l.length*c0≤n:=by
   rw [hG] at h4
   have:=of_decide_eq_false h4
   have h5:¬ j<(L.length:Int):=this
   omega
  refine hq _ _ ⟨_,rfl,rfl,?_⟩
  refine gu_ext (by rw [hL,repL_len,hc0];rfl) fun i hlt=>?_
  rw [hi i (by omega),repL_get (by rw [hc0];show i<l.length*c0;omega)]
theorem fill_ok (b w:Int) (s:Bool) (hw:0≤w∧w<2^15):FvC CX TB (.f 105 [] []) [.i .u8 b,.i .i64 w,.b s] [] (RV (List.replicate w.toNat b) s):=by
 refine fn_ok rfl rfl fun B D G hG q hq=>?_
 cbv
 refine call hG [] (repeat_ok [b] w (by simp) hw) ⟨rfl,rfl,rfl⟩ ?_
 rintro _ _ ⟨L,rfl,rfl,hL⟩
 cbv
 exact hq _ _ ⟨_,_,rfl,rfl,by rw [hL,repL_one],rfl⟩
theorem norm_ok (l:List Int) (s:Bool) (hl:l.length<2^15):FvC CX TB (.f 96 [] []) [.a [.u l,.b s]] [] (RV (nB l) (nS l s)):=by
 refine fn_ok rfl rfl fun B D G hG q hq=>?_
 cbv
 refine call hG [] (check_ok l s) ⟨rfl,rfl,rfl⟩ ?_
 rintro _ _ ⟨e,rfl,rfl,he⟩
 cbv
 refine SX.ite hG (fun h1=>?_) (fun h1=>?_)
 ·have h1:¬ e=0:=by simpa [hG,std,cmpS,arS,beqS] using h1
  refine call hG [] (fill_ok _ _ _ (by constructor<;>decide)) ⟨rfl,rfl,rfl⟩ ?_
  rintro _ _ ⟨L,t,rfl,rfl,hL,ht⟩
  cbv
  exact hq _ _ ⟨_,_,rfl,rfl,by rw [hL,nB,if_neg (by rw [←he];exact h1)];rfl,by rw [ht,nS,if_neg (by rw [←he];exact h1)]⟩
 ·have h1:e=0:=by simpa [hG,std,cmpS,arS,beqS] using h1
  have hne:l≠[]:=fun h=>by rw [h] at he;rw [he] at h1;revert h1;decide
  refine call hG [] (clone_ok l hne (by omega)) ⟨rfl,rfl,rfl⟩ ?_
  rintro _ _ ⟨L,rfl,rfl,hL⟩
  cbv
  refine okd hG rfl (hq _ _ ⟨_,_,rfl,rfl,by rw [hL,nB,if_pos (by rw [←he];exact h1)],by rw [nS,if_pos (by rw [←he];exact h1)]⟩)
theorem width_ok (n:Int):FvC CX TB (.f 102 [] []) [.i .i64 n] [] (RB (okW n)):=by
 refine fn_ok rfl rfl fun B D G hG q hq=>?_
 cbv
 refine SX.ite hG (fun h1=>?_) (fun h1=>?_)
 ·exact hq _ _ ⟨_,rfl,rfl,by rw [hG] at h1 ⊢;have h1:decide (n≥1)=true:=h1;show decide (n≤128)=_;simp at h1;simp [okW,h1]⟩
 ·exact hq _ _ ⟨_,rfl,rfl,by rw [hG] at h1;have h1:decide (n≥1)=false:=h1;simp at h1;symm;simp [okW];intro h;omega⟩
end Go.Proofs.YtdgbdkfoeaollaaGreatDoor.V0
end
section
set_option linter.unusedSimpArgs false
set_option linter.unusedVariables false
namespace Go.Proofs.YtdgbdkfoeaollaaGreatDoor.V0
open Go Go.AL Go.SX Go.Proofs.YtdgbdkfoeaollaaGreatDoor.V
def flat:List (List Int×Bool)→List SV
 | []=>[]
 | p::r=>.u p.1 :: .b p.2::flat r
def catL:List (List Int×Bool)→List Int
 | []=>[]
 | p::r=>catL r++nB p.1
theorem flat_len:∀ L,(flat L).length=L.length*2
 | []=>rfl
 | p::r=>by simp only [flat,List.length_cons,flat_len r];omega
theorem flat_get:∀ {L:List (List Int×Bool)} {i:Nat} {p:List Int×Bool},L[i]?=some p→(flat L)[i*2]?=some (.u p.1)∧(flat L)[i*2+1]?=some (.b p.2)
 | [],i,p,h=>by simp at h
 | q::r,0,p,h=>by simp at h;subst h;exact ⟨rfl,rfl⟩
 | q::r,i+1,p,h=>by
   have:=flat_get (L:=r) (i:=i) (by simpa using h)
   rw [show (i+1)*2=i*2+1+1 by omega]
   exact this
theorem flat_men:∀ L j,menL j (flat L)=false
 | [],j=>rfl
 | p::r,j=>by simp only [flat,menL,men,flat_men r j,Bool.or_self]
theorem catL_drop:∀ {L:List (List Int×Bool)} {k:Nat} {p:List Int×Bool},L[k]?=some p→catL (L.drop k)=catL (L.drop (k+1))++nB p.1
 | [],k,p,h=>by simp at h
 | q::r,0,p,h=>by simp at h;subst h;rfl
 | q::r,k+1,p,h=>catL_drop (L:=r) (by simpa using h)
theorem catL_le:∀ (L:List (List Int×Bool)) (k:Nat),(catL (L.drop k)).length≤(catL L).length
 | [],k=>by simp
 | p::r,0=>Nat.le_refl _
 | p::r,k+1=>by
   have:=catL_le r k
   simp only [List.drop_succ_cons,catL,List.length_append];omega
def env4:T SV:=((T.nil.set 2 (SV.o 0 0)).set 3 (.o 1 0)).set 4 (.o 2 0)
def objC (out:List Int):List SX.Obj:=[.x [.nil,.kb false],.x [.n .i64 0],.x [.s 3,.kb false],.u out]
def objF:List SX.Obj:=[.x [.nil,.kb false],.x [.n .i64 12]]
structure Fx (D:Bs) (E4:Env):Prop where
 ids:∃ i2 i3 i4,D.m0 0=some (.pointer (some ⟨i2,0,none⟩))∧D.m0 1=some (.pointer (some ⟨i3,0,none⟩))∧D.m0 2=some (.pointer (some ⟨i4,0,none⟩))∧E4.get 2=some (.pointer (some ⟨i2,0,none⟩))∧E4.get 3=some (.pointer (some ⟨i3,0,none⟩))∧E4.get 4=some (.pointer (some ⟨i4,0,none⟩))
theorem Fx.env {D:Bs} {E4 E:Env} {m:List Value} {objs:List SX.Obj} {e:T SV} {H B:AH} (h:Fx D E4) (hs:Sat TB B D m ⟨e,objs⟩ E H):Sat TB B D m ⟨env4,objs⟩ E4 H:=by
 obtain ⟨i2,i3,i4,h2,h3,h4,g2,g3,g4⟩:=h.ids
 refine hs.reEnv fun t x hx=>?_
 simp only [env4,T.get_set] at hx
 split at hx
 ·cases hx;rename_i e;subst e;exact ⟨_,g4,_,(hs.fix 2 _ h4).1,rfl⟩
 split at hx
 ·cases hx;rename_i e;subst e;exact ⟨_,g3,_,(hs.fix 1 _ h3).1,rfl⟩
 split at hx
 ·cases hx;rename_i e;subst e;exact ⟨_,g2,_,(hs.fix 0 _ h2).1,rfl⟩
 ·simp at hx
theorem round {B:AH} {D:Bs} {m:List Value} {E4:Env} {H:AH} {out l:List Int} {s:Bool} {j:Int} {x:Value} (hf:Fx D E4) (hm:∀ i v,D.m0 i=some v→i<3) (hs:Sat TB B D m ⟨env4,objC out⟩ E4 H) (hl:l.length<2^15) (ho:out.length≤128)
  (hx:Den (Own m (objC out)) m H (.a [.u l,.b s]) x):Yw CX IR.cat E4 (.int .i64 j) x H fun b H'=>(b=true∧(out++nB l).length≤128∧∃ m',Sat TB B D m' ⟨env4,objC (out++nB l)⟩ E4 H')∨(b=false∧128<(out++nB l).length∧∃ m',Sat TB B ⟨D.d,fun _=>none⟩ m' ⟨(T.nil.set 2 (SV.o 0 0)).set 3 (.o 1 0),objF⟩ E4 H'):=by
 have hs1:Sat TB B D m ⟨(env4.set 13 (.i .i64 j)).set 14 (.a [.u l,.b s]),objC out⟩ (AL.put (AL.put E4 (some 13) (.int .i64 j)) (some 14) x) H:=by
  refine hs.reEnv fun t y hy=>?_
  rw [T.get_set] at hy
  split at hy
  ·cases hy;rename_i e;subst e;exact ⟨x,by rw [get_putS,if_pos rfl],hx⟩
  ·rw [T.get_set] at hy
   split at hy
   ·cases hy;rename_i e;subst e;exact ⟨_,by rw [get_putS,if_neg (by decide),get_putS,if_pos rfl],rfl⟩
   ·rename_i n1 n2
    obtain ⟨w,e1,e2⟩:=hs.env t y hy
    exact ⟨w,by rw [get_putS,if_neg (Ne.symm n1),get_putS,if_neg (Ne.symm n2)];exact e1,e2⟩
 obtain ⟨G,hG⟩:∃ G,G=std CX TB B D:=⟨_,rfl⟩
 refine Yw.intro ?_
 refine (W_ok (ic:=IR.cat.iasg) (k:=fun c s1=>c=.normal∧s1=⟨((env4.set 13 (.i .i64 j)).set 14 (.a [.u l,.b s])).set 6 (.o 4 0),objC out++[.x [.u l,.b s]]⟩) (by rw [←hG];cbv) hs1).mono ?_
 rintro c E1 H1 ⟨s1,m1,⟨rfl,rfl⟩,hs2⟩
 refine ⟨rfl,?_⟩
 have hwl:out.length<2^20:=by omega
 have hnl:(nB l).length≤128:=by
  unfold nB;split
  ·exact (chk_zero (by assumption)).2.1
  ·decide
 have hne:nB l≠[]:=by
  unfold nB;split
  ·exact (chk_zero (by assumption)).1
  ·decide
 have hk:∀ kk:Ctl→SX.St→Prop,(∀ s1,(out++nB l).length≤128→Le s1 ⟨T.nil,objC (out++nB l)⟩→kk .normal s1)→(∀ s1,128<(out++nB l).length→Le s1 ⟨T.nil,objF⟩→kk .ret s1) →
   W (std CX TB B D) TB IR.cat.ibody ⟨((env4.set 13 (.i .i64 j)).set 14 (.a [.u l,.b s])).set 6 (.o 4 0),objC out++[.x [.u l,.b s]]⟩ kk:=by
  intro kk k1 k2
  rw [←hG]
  cbv
  refine call hG [] (norm_ok l s hl) ⟨rfl,rfl,rfl⟩ ?_
  rintro _ _ ⟨M,t,rfl,rfl,hM,ht⟩
  cbv
  rw [←hM] at hnl hne k1 k2
  have hap:G.ap (G.lu out) (G.lu M):=by rw [hG];simp only [std];omega
  have eap:G.apu out M=out++M:=by rw [hG];rfl
  have hMp:=List.length_pos_iff.2 hne
  refine ⟨hap,okd hG (by kernel_rfl) ?_⟩
  refine call hG [] (width_ok (G.lu (G.apu out M))) ⟨rfl,rfl,rfl⟩ ?_
  rintro _ _ ⟨c,rfl,rfl,hc⟩
  cbv
  have ec:c=decide ((out++M).length≤128):=by
   rw [hc,eap,hG]
   show (decide (1≤((out++M).length:Int))&&decide (((out++M).length:Int)≤128))=_
   have h1:1≤(out++M).length:=by rw [List.length_append];omega
   by_cases h2:(out++M).length≤128
   ·simp only [decide_eq_true h2,Bool.and_eq_true,decide_eq_true_eq];omega
   ·simp only [decide_eq_false h2,Bool.and_eq_false_iff,decide_eq_false_iff_not];omega
  refine SX.ite hG (fun h1=>?_) (fun h1=>?_)
  ·have e:c=false:=by rw [hG] at h1;simpa [std] using h1
   have h2:¬ (out++M).length≤128:=of_decide_eq_false (by rw [←ec,e])
   exact k2 _ (Nat.lt_of_not_le h2) (by constructor<;>cbv<;>simp)
  ·have e:c=true:=by rw [hG] at h1;simpa [std] using h1
   have h2:(out++M).length≤128:=of_decide_eq_true (by rw [←ec,e])
   rw [←eap] at h2 k1
   exact k1 _ h2 (by constructor<;>cbv<;>simp)
 refine (W_ok (ic:=IR.cat.ibody) (k:=fun c s1=>(c=.normal∧(out++nB l).length≤128∧Le s1 ⟨T.nil,objC (out++nB l)⟩)∨(c=.ret∧128<(out++nB l).length∧Le s1 ⟨T.nil,objF⟩)) (hk _ (fun s1 h1 h2=>.inl ⟨rfl,h1,h2⟩) (fun s1 h1 h2=>.inr ⟨rfl,h1,h2⟩)) hs2).mono ?_
 ·rintro c E2 H2 ⟨s2,m2,⟨rfl,h1,h2⟩ | ⟨rfl,h1,h2⟩,hs3⟩
  ·refine .inl ⟨rfl,.inl ⟨rfl,h1,_,hf.env (hs3.leD h2 fun i v hv=>?_)⟩⟩
   match i,hm i v hv with
   | 0,_=>exact ⟨_,rfl⟩
   | 1,_=>exact ⟨_,rfl⟩
   | 2,_=>exact ⟨_,rfl⟩
  ·have h3:=hs3.noFix.le h2
   obtain ⟨i2,i3,i4,k2,k3,k4,g2,g3,g4⟩:=hf.ids
   refine .inr ⟨rfl,.inr ⟨rfl,h1,_,h3.reEnv fun t x hx=>?_⟩⟩
   have f2:=(hs3.fix 0 _ k2).1
   have f3:=(hs3.fix 1 _ k3).1
   simp only [T.get_set] at hx
   split at hx
   ·cases hx;rename_i e;subst e;exact ⟨_,g3,_,by rw [List.getElem?_take,if_pos (by decide)];exact f3,rfl⟩
   split at hx
   ·cases hx;rename_i e;subst e;exact ⟨_,g2,_,by rw [List.getElem?_take,if_pos (by decide)];exact f2,rfl⟩
   ·simp at hx
theorem take2 {cs:List Value} {o:Nat} {a b:Value} (h1:cs[o]?=some a) (h2:cs[o+1]?=some b):AL.part (some 2) cs o=some (.agg ⟨[a,b]⟩):=by
 obtain ⟨l1,e1⟩:=List.getElem?_eq_some_iff.1 h1
 obtain ⟨l2,e2⟩:=List.getElem?_eq_some_iff.1 h2
 have e:(cs.drop o).take 2=[a,b]:=by rw [List.drop_eq_getElem_cons l1,List.drop_eq_getElem_cons l2,e1,e2];rfl
 simp only [AL.part,takeCells,e];rfl
def RgQ (B:AH) (D:Bs) (E4:Env) (out:List Int) (b:Bool) (H':AH):Prop:=(b=true∧out.length≤128∧∃ m',Sat TB B D m' ⟨env4,objC out⟩ E4 H')∨(b=false∧128<out.length∧∃ m',Sat TB B ⟨D.d,fun _=>none⟩ m' ⟨(T.nil.set 2 (SV.o 0 0)).set 3 (.o 1 0),objF⟩ E4 H')
theorem loop_ok {B:AH} {D:Bs} {E4:Env} {L:List (List Int×Bool)} {v:Value} {cb:Nat} (hf:Fx D E4) (hm:∀ i v,D.m0 i=some v→i<3) (hcb:B.t.get cb=some ⟨[v],0⟩) (hcb2:cb<B.n) (hcb3:¬ D.d cb) (hv:Den D.d [] B (.r 2 (flat L)) v) (hl:∀ p∈L,p.1.length<2^15) (hn:L.length<2^20) :
  ∀ k,k≤L.length→∀ m E H,E.get 1=some (.pointer (some ⟨cb,0,none⟩))→E.get 3=some (.int .i64 ((k:Int)-1))→Sat TB B D m ⟨env4,objC (catL (L.drop k))⟩ E4 H→(catL (L.drop k)).length≤128→Bl CX IR.cat IR.back E4 E H (RgQ B D E4 (catL L)):=by
 intro k
 induction k with
 | zero=>
   intro _ m E H h1 h3 hs hlen
   refine Bl.done ?_
   show Ow CX [⟨some 7,none,.mov (.tmp 3)⟩,⟨some 8,none,.bin 0 .geq (.tmp 7) (.const (.int .i64 0))⟩] E H _
   (refine Ow.popM rfl ?_;simp only [S0,Nat.reduceEqDiff,Nat.reduceAdd,reduceIte,reduceCtorEq,h3])
   (refine Ow.popM rfl ?_;simp only [S0,Nat.reduceEqDiff,Nat.reduceAdd,reduceIte,reduceCtorEq,h3])
   refine Ow.nilM ⟨?_,.inl ⟨rfl,hlen,m,hs⟩⟩
   simp only [S0,Nat.reduceEqDiff,Nat.reduceAdd,reduceIte,reduceCtorEq]
   rfl
 | succ k ih=>
   intro hk m E H h1 h3 hs hlen
   have e0:((k+1:Nat):Int)-1=(k:Int):=by omega
   rw [e0] at h3
   obtain ⟨p,hp⟩:∃ p,L[k]?=some p:=⟨L[k],List.getElem?_eq_getElem hk⟩
   have hpl:p.1.length<2^15:=hl p (List.mem_of_getElem? hp)
   obtain ⟨f1,f2⟩:=flat_get hp
   have hcbH:H.t.get cb=some ⟨[v],0⟩:=by rw [hs.fr.get cb hcb2 hcb3];exact hcb
   have hv2:=hs.old (x:=.r 2 (flat L)) (fun j=>by simp only [men];exact flat_men L j) hv
   simp only [Den] at hv2
   obtain ⟨a,n,cap,vs,rfl,en,-,hd,had⟩:=hv2
   obtain ⟨w1,g1,d1⟩:=hd.get f1
   obtain ⟨w2,g2,rfl⟩:=hd.get f2
   obtain ⟨ad,rfl,bk,b1,b2,b3,b4⟩:=had (fun e=>by rw [e] at g1;simp at g1)
   rw [flat_len] at en
   have en:n=L.length:=by omega
   have c1:=b4 _ _ g1
   have c2:=b4 _ _ g2
   have hlt:k<n:=by omega
   refine Bl.step ?_
   show Ow CX [⟨some 7,none,.mov (.tmp 3)⟩,⟨some 8,none,.bin 0 .geq (.tmp 7) (.const (.int .i64 0))⟩] E H _
   (refine Ow.popM rfl ?_;simp only [S0,Nat.reduceEqDiff,Nat.reduceAdd,reduceIte,reduceCtorEq,h3])
   (refine Ow.popM rfl ?_;simp only [S0,Nat.reduceEqDiff,Nat.reduceAdd,reduceIte,reduceCtorEq,h3])
   have hge:decide ((k:Int)≥0)=true:=by simp
   refine Ow.nilM ⟨by simp only [S0,Nat.reduceEqDiff,Nat.reduceAdd,reduceIte,reduceCtorEq,hge],?_⟩
   show Ow CX [⟨some 12,none,.mov (.tmp 3)⟩,⟨some 13,none,.load none (.tmp 1)⟩,⟨some 14,none,.mov (.tmp 3)⟩,⟨some 15,none,.indexAddr 2 none (.tmp 13) (.tmp 14)⟩,⟨some 16,none,.load (some 2) (.tmp 15)⟩] _ H _
   (refine Ow.popM rfl ?_;simp only [S0,Nat.reduceEqDiff,Nat.reduceAdd,reduceIte,reduceCtorEq,h3])
   (refine Ow.hopM rfl rfl ?_;simp only [S0,Nat.reduceEqDiff,Nat.reduceAdd,reduceIte,reduceCtorEq,h1,hcbH,List.getElem?_cons_zero])
   (refine Ow.popM rfl ?_;simp only [S0,Nat.reduceEqDiff,Nat.reduceAdd,reduceIte,reduceCtorEq,h3])
   (refine Ow.popM rfl ?_;simp only [S0,Nat.reduceEqDiff,Nat.reduceAdd,reduceIte,reduceCtorEq,ix_ok hlt])
   (refine Ow.hopM rfl rfl ?_;simp only [S0,Nat.reduceEqDiff,Nat.reduceAdd,reduceIte,reduceCtorEq,b3,take2 c1 c2])
   refine Ow.nilM ⟨.int .i64 (k:Int),.agg ⟨[w1,.bool p.2]⟩,by simp only [S0,Nat.reduceEqDiff,Nat.reduceAdd,reduceIte,reduceCtorEq],by simp only [S0,Nat.reduceEqDiff,Nat.reduceAdd,reduceIte,reduceCtorEq],?_⟩
   obtain ⟨N,b,H',hy,hq⟩:=round (x:=.agg ⟨[w1,.bool p.2]⟩) (s:=p.2) (j:=(k:Int)) hf hm hs hpl hlen ⟨_,rfl,_,_,rfl,d1,_,_,rfl,rfl,rfl⟩
   refine ⟨N,b,H',hy,?_⟩
   rw [←catL_drop hp] at hq
   show Ow CX [⟨some 18,none,.un .not (.tmp 17)⟩] _ H' _
   (refine Ow.popM rfl ?_;simp only [S0,Nat.reduceEqDiff,Nat.reduceAdd,reduceIte,reduceCtorEq])
   refine Ow.nilM ?_
   rcases hq with ⟨rfl,q1,m',q2⟩ | ⟨rfl,q1,m',q2⟩
   ·refine .inr ⟨rfl,by simp only [S0,Nat.reduceEqDiff,Nat.reduceAdd,reduceIte,reduceCtorEq],?_⟩
    show Ow CX [⟨some 9,none,.mov (.tmp 3)⟩,⟨some 10,none,.bin 0 .sub (.tmp 9) (.const (.int .i64 1))⟩,⟨some 3,none,.mov (.tmp 10)⟩] _ H' _
    have e1:fwrap .i64 ((k:Int)-1)=(k:Int)-1:=fwi (by omega)
    (refine Ow.popM rfl ?_;simp only [S0,Nat.reduceEqDiff,Nat.reduceAdd,reduceIte,reduceCtorEq,h3])
    (refine Ow.popM rfl ?_;simp only [S0,Nat.reduceEqDiff,Nat.reduceAdd,reduceIte,reduceCtorEq,h3,e1])
    (refine Ow.popM rfl ?_;simp only [S0,Nat.reduceEqDiff,Nat.reduceAdd,reduceIte,reduceCtorEq,h3])
    refine Ow.nilM (ih (by omega) m' _ H' ?_ ?_ q2 q1)
    ·simp only [S0,Nat.reduceEqDiff,Nat.reduceAdd,reduceIte,reduceCtorEq,h1]
    ·simp only [S0,Nat.reduceEqDiff,Nat.reduceAdd,reduceIte,reduceCtorEq]
   ·refine .inl ⟨rfl,by simp only [S0,Nat.reduceEqDiff,Nat.reduceAdd,reduceIte,reduceCtorEq],.inr ⟨rfl,Nat.lt_of_lt_of_le q1 (catL_le L k),m',q2⟩⟩
theorem backward_any {H:AH} {a:Option Addr} {n cap:Nat}:Run CX 107 [.slice a n cap] H fun r H'=>H'=H.new ⟨[.slice a n cap],0⟩∧r=.func (.func 165) ⟨[]⟩ ⟨[.pointer (some ⟨H.n,0,none⟩)]⟩:=by
 refine Run.intro (fi:=IR.fi107) rfl (by kernel_rfl) ?_
 unfold IR.fi107
 simp only [envOf_cons,envOf_nil]
 refine Cw.seq (Cw.region ?_)
 (refine Ow.hopM rfl rfl ?_;simp only [S0,Nat.reduceEqDiff,Nat.reduceAdd,reduceIte,reduceCtorEq,junk,AL.cellsOf])
 (refine Ow.popM rfl ?_;simp only [S0,Nat.reduceEqDiff,Nat.reduceAdd,reduceIte,reduceCtorEq])
 refine Ow.nilM ⟨nofun,?_⟩
 refine Cw.seq (Cw.region ?_)
 iterate 2 (refine Ow.popM rfl ?_;simp only [S0,Nat.reduceEqDiff,Nat.reduceAdd,reduceIte,reduceCtorEq])
 refine Ow.nilM ⟨nofun,?_⟩
 refine Cw.ret ?_
 simp only [FnPost,resOf,tupled,S0,Nat.reduceEqDiff,Nat.reduceAdd,reduceIte,reduceCtorEq,and_self]
theorem fin_of {K:CatIR} {Q:Value→AH→Prop} {E:Env} {H:AH} (h:FnPost K.res Q .ret E H):Fin K Q E H:=by
 unfold FnPost at h
 cases hr:resOf E H K.res with
 | none=>simp only [hr] at h
 | some vs=>simp only [hr] at h;exact ⟨vs,hr,h⟩
theorem bl_mono {C:Ctx} {K:CatIR} {B:BackIR} {E0 E:Env} {H:AH} {Q Q':Bool→AH→Prop} (h:Bl C K B E0 E H Q) (hq:∀ b H',Q b H'→Q' b H'):Bl C K B E0 E H Q':=by
 obtain ⟨N,r,hr,hQ⟩:=h
 exact ⟨N,r,hr,hq _ _ hQ⟩
theorem boxM_lt {m:List Value} {out:List Int}:∀ i v,boxM m (objC out) i=some v→i<3:=by
 intro i v h
 match i,h with
 | 0,_=>decide
 | 1,_=>decide
 | 2,_=>decide
 | 3,h=>exact absurd h (by simp [boxM,objC])
 | i+4,h=>exact absurd h (by simp [boxM,objC])
theorem concat_ok (L:List (List Int×Bool)) (hl:∀ p∈L,p.1.length<2^15) (hn:L.length<2^20):FvC V.CX TB (.f 24 [] []) [.r 2 (flat L)] [] (RE (decide (L≠[]∧(catL L).length≤128)) (catL L) false (if L=[] then 4 else 12)):=by
 intro H m vf vs ho hgl hdf hda
 obtain rfl:m=[]:=List.length_eq_zero_iff.1 ho.len
 simp only [Den,DenL] at hdf
 obtain ⟨vf',vc,rfl,rfl,rfl⟩:=hdf
 refine ⟨24,[],[],rfl,?_⟩
 have e2:([]:List Value)++(vs++[])=vs:=by simp
 rw [e2]
 suffices key:∃ n v H',catN n vs H=some (v,H')∧∃ m' r ro,RE (decide (L≠[]∧(catL L).length≤128)) (catL L) false (if L=[] then 4 else 12) r ro∧Obs m' ro H'∧ro.all okO=true∧Den (fun id=>Own m' ro id∨id<H.n) m' H' r v∧(∀ id,Own m' ro id→H.n≤id∨Own [] [] id)∧Frm (Own [] []) H H' by
  obtain ⟨n,v,H',e,q⟩:=key
  exact Run.ext (g:=anyN catN) rfl (anyN_eq (f:=catN) (fun n m args H r h he=>catEv_mono (evF_mono h) h he) e) q
 obtain ⟨q,hq⟩:∃ q,q=RE (decide (L≠[]∧(catL L).length≤128)) (catL L) false (if L=[] then 4 else 12):=⟨_,rfl⟩
 rw [←hq]
 have hs0:Sat TB H ⟨Own [] [],fun _=>none⟩ [] ⟨envS [.r 2 (flat L)] 0,[]⟩ (envOf vs 0) H:=
  ⟨ho,fun id h=>.inr h,fun t x hx=>envS_ok 0 t x hda hx,⟨Nat.le_refl _,fun _ _ _=>rfl,fun x h _ _=>h⟩,(fun i v h=>by cases h),hgl⟩
 obtain ⟨F,hF⟩:∃ F,F=flat L:=⟨_,rfl⟩
 rw [←hF] at hs0
 have hA:W (std CX TB H ⟨Own [] [],fun _=>none⟩) TB IR.cat.iA ⟨envS [.r 2 F] 0,[]⟩ fun c s=>c=.normal∧s=⟨((envS [.r 2 F] 0).set 2 (.o 0 0)).set 3 (.o 1 0),[.x [.nil,.kb false],.x [.n .i64 0]]⟩:=by
  generalize std CX TB H ⟨Own [] [],fun _=>none⟩=G
  cbv
 refine cat_intro (C:=CX) (K:=IR.cat) (B:=IR.back) ((W_ok hA hs0).mono ?_)
 rintro c E1 H1 ⟨s1,m1,⟨rfl,rfl⟩,hs1⟩
 refine ⟨rfl,?_⟩
 clear hA
 by_cases hne:L=[]
 ·subst hne
  subst hF
  have hX:W (std CX TB H ⟨Own [] [],fun _=>none⟩) TB IR.cat.iX ⟨((envS [.r 2 (flat [])] 0).set 2 (.o 0 0)).set 3 (.o 1 0),[.x [.nil,.kb false],.x [.n .i64 0]]⟩ fun c s=>c=.ret∧post IR.cat.res q c s:=by
   generalize std CX TB H ⟨Own [] [],fun _=>none⟩=G
   have h4:∀ sg e,sg=false→e=4→q (.t [.a [.nil,.b sg],.i .i64 e]) []:=fun sg e h1 h2=>by rw [hq];exact .inr ⟨rfl,_,_,rfl,rfl,h1,h2⟩
   clear hq
   cbv
   exact h4 _ _ rfl rfl
  refine (W_ok hX hs1).mono ?_
  rintro c E2 H2 ⟨s2,m2,⟨rfl,hp⟩,hs2⟩
  exact .inl ⟨rfl,fin_of (post_ok hs2 hp)⟩
 obtain ⟨w,hw0,hwd⟩:=hs1.env 0 (.r 2 F) rfl
 have hmF:∀ j,men j (.r 2 F)=false:=fun j=>by rw [hF];simp only [men];exact flat_men L j
 have hwd1:=hwd
 simp only [Den] at hwd1
 obtain ⟨a,n,cap,ws,rfl,en,-⟩:=hwd1
 rw [hF,flat_len] at en
 have en:n=L.length:=by omega
 have hLp:0<L.length:=List.length_pos_iff.2 hne
 have hn0:((n:Int) == 0)=false:=by rw [beq_eq_false_iff_ne];omega
 refine Cw.seq (Cw.region ?_)
 (refine Ow.popM rfl ?_;simp only [S0,Nat.reduceEqDiff,Nat.reduceAdd,reduceIte,reduceCtorEq,hw0])
 (refine Ow.popM rfl ?_;simp only [S0,Nat.reduceEqDiff,Nat.reduceAdd,reduceIte,reduceCtorEq])
 (refine Ow.popM rfl ?_;simp only [S0,Nat.reduceEqDiff,Nat.reduceAdd,reduceIte,reduceCtorEq,hn0])
 refine Ow.nilM ⟨nofun,?_⟩
 refine Cw.cond (t:=false) (by simp only [S0,Nat.reduceEqDiff,Nat.reduceAdd,reduceIte,reduceCtorEq,hn0]) ?_
 rw [if_neg (by decide)]
 refine Cw.skip (.inr ⟨rfl,?_⟩)
 generalize hE2:(AL.put (AL.put (AL.put E1 (some 7) _) (some 8) _) (some 9) _)=E2
 have keep:∀ t,t<4→E2.get t=E1.get t:=fun t ht=>by
  rw [←hE2]
  rw [get_putS,if_neg (by omega),get_putS,if_neg (by omega),get_putS,if_neg (by omega)]
 have hs2:Sat TB H ⟨Own [] [],fun _=>none⟩ m1 ⟨((T.nil.set 0 (SV.r 2 F)).set 2 (.o 0 0)).set 3 (.o 1 0),[.x [.nil,.kb false],.x [.n .i64 0]]⟩ E2 H1:=by
  refine hs1.reEnv fun t x hx=>?_
  simp only [T.get_set] at hx
  split at hx
  ·cases hx;rename_i e;subst e;rw [keep 3 (by decide)];exact hs1.env 3 (.o 1 0) rfl
  split at hx
  ·cases hx;rename_i e;subst e;rw [keep 2 (by decide)];exact hs1.env 2 (.o 0 0) rfl
  split at hx
  ·cases hx;rename_i e;subst e;exact ⟨_,by rw [keep 0 (by decide)];exact hw0,hwd⟩
  ·simp at hx
 have hD:W (std CX TB H ⟨Own [] [],fun _=>none⟩) TB IR.cat.iD ⟨((T.nil.set 0 (SV.r 2 F)).set 2 (.o 0 0)).set 3 (.o 1 0),[.x [.nil,.kb false],.x [.n .i64 0]]⟩ fun c s=>c=.normal∧s=⟨(((T.nil.set 0 (SV.r 2 F)).set 2 (.o 0 0)).set 3 (.o 1 0)).set 4 (.o 2 0),[.x [.nil,.kb false],.x [.n .i64 0],.x [.nil,.kb false]]⟩:=by
  generalize std CX TB H ⟨Own [] [],fun _=>none⟩=G
  cbv
 refine (W_ok hD hs2).mono ?_
 rintro c E3 H3 ⟨s3,m3,⟨rfl,rfl⟩,hs3⟩
 refine ⟨rfl,?_⟩
 clear hD
 have hs3':=hs3.regB 2 0 (.u []) rfl rfl
 clear hwd hw0 hn0 en
 obtain ⟨w3,hw3,hwd3⟩:=hs3'.env 0 (.r 2 F) rfl
 have hwd1:=hwd3
 simp only [Den] at hwd1
 obtain ⟨a,n,cap,ws,rfl,en,-⟩:=hwd1
 rw [hF,flat_len] at en
 have en:n=L.length:=by omega
 have hs4:=(hs3'.wl (y:=min H3.wl H3.n) fun x h1 h2=>Nat.le_min.2 ⟨h1,h2⟩).new ⟨[.slice a n cap],0⟩
 generalize hmm:m3++[Value.slice none 0 0]=mm at *
 refine Cw.region ?_
 (refine Ow.popM rfl ?_;simp only [S0,Nat.reduceEqDiff,Nat.reduceAdd,reduceIte,reduceCtorEq,hw3])
 refine Ow.call (R:=fun r H'=>H'=AH.new { H3 with wl:=H3.n } ⟨[.slice a n cap],0⟩∧r=.func (.func 165) ⟨[]⟩ ⟨[.pointer (some ⟨H3.n,0,none⟩)]⟩) (k:=107) (fs:=[]) (cs:=[]) (vs:=[.slice a n cap]) rfl rfl (by simp only [S0,Nat.reduceEqDiff,Nat.reduceAdd,reduceIte,reduceCtorEq]) backward_any ?_
 rintro _ _ ⟨rfl,rfl⟩
 refine ⟨_,rfl,?_⟩
 refine Ow.nilM ⟨nofun,trivial,?_⟩
 change Rg CX IR.cat IR.back 165 _ (AH.new { H3 with wl:=min H3.wl H3.n } ⟨[.slice a n cap],0⟩) _
 have hlt:∀ id,Own mm (objC []) id→id<H3.n:=by
  rintro id ⟨i,o,v,h1,h2,h3,h4⟩
  exact (hs3'.obs.ok i o v h1 h3).lt h2 h4
 have hcb:(AH.new { H3 with wl:=min H3.wl H3.n } ⟨[.slice a n cap],0⟩).t.get H3.n=some ⟨[.slice a n cap],0⟩:=T.get_set_self _ _ _
 have hcb2:H3.n<(AH.new { H3 with wl:=min H3.wl H3.n } ⟨[.slice a n cap],0⟩).n:=Nat.lt_succ_self _
 generalize AH.new { H3 with wl:=min H3.wl H3.n } ⟨[.slice a n cap],0⟩=H4 at *
 generalize hE4:AL.put (AL.put E3 (some 11) (.slice a n cap)) (some 12) (.func (.func 165) ⟨[]⟩ ⟨[.pointer (some ⟨H3.n,0,none⟩)]⟩)=E4
 have keep:∀ t,t<5→E4.get t=E3.get t:=fun t ht=>by
  rw [←hE4]
  rw [get_putS,if_neg (by omega),get_putS,if_neg (by omega)]
 have hE12:E4.get 12=some (.func (.func 165) ⟨[]⟩ ⟨[.pointer (some ⟨H3.n,0,none⟩)]⟩):=by rw [←hE4,get_putS,if_pos rfl]
 have hs5:Sat TB H ⟨Own [] [],fun _=>none⟩ mm ⟨env4,objC []⟩ E4 H4:=by
  refine hs4.reEnv fun t x hx=>?_
  simp only [env4,T.get_set] at hx
  split at hx
  ·cases hx;rename_i e;subst e;rw [keep 4 (by decide)];exact hs4.env 4 (.o 2 0) rfl
  split at hx
  ·cases hx;rename_i e;subst e;rw [keep 3 (by decide)];exact hs4.env 3 (.o 1 0) rfl
  split at hx
  ·cases hx;rename_i e;subst e;rw [keep 2 (by decide)];exact hs4.env 2 (.o 0 0) rfl
  ·simp at hx
 have hv:Den (Own mm (objC [])) [] H4 (.r 2 (flat L)) (.slice a n cap):=by
  obtain ⟨w4,hw4,hwd4⟩:=hs4.env 0 (.r 2 F) rfl
  rw [hw3] at hw4;cases hw4
  rw [←hF]
  exact hwd4.mono (fun _ _ h=>h) (Nat.le_refl _) (fun _ _ _=>rfl) _ _ (fun j v hj=>by rw [hmF j] at hj;cases hj)
 have hs6:Sat TB H4 ⟨Own mm (objC []),boxM mm (objC [])⟩ mm ⟨env4,objC []⟩ E4 H4:=by
  refine ⟨hs5.obs,fun id h=>.inr h,hs5.env,⟨Nat.le_refl _,fun _ _ _=>rfl,fun x h _ _=>h⟩,fun i v hv=>?_,hs5.gl⟩
  change boxM mm (objC []) i=some v at hv
  unfold boxM at hv
  split at hv
  ·rename_i cs hc;exact ⟨hv,cs,hc⟩
  ·cases hv
 have fx:Fx ⟨Own mm (objC []),boxM mm (objC [])⟩ E4:=by
  obtain ⟨v2,k2,i2,j2,rfl⟩:=hs5.env 2 (.o 0 0) rfl
  obtain ⟨v3,k3,i3,j3,rfl⟩:=hs5.env 3 (.o 1 0) rfl
  obtain ⟨v4,k4,i4,j4,rfl⟩:=hs5.env 4 (.o 2 0) rfl
  exact ⟨i2,i3,i4,j2,j3,j4,k2,k3,k4⟩
 have hBl:=loop_ok (B:=H4) (D:=⟨Own mm (objC []),boxM mm (objC [])⟩) (L:=L) (v:=.slice a n cap) (cb:=H3.n) fx boxM_lt hcb hcb2 (fun h=>absurd (hlt _ h) (Nat.lt_irrefl _)) hv hl hn L.length (Nat.le_refl _)
 rw [List.drop_length] at hBl
 refine Rg.intro (cap:=.pointer (some ⟨H3.n,0,none⟩)) hE12 ?_
 simp only [envOf_cons,envOf_nil]
 show Ow CX [⟨some 4,none,.load none (.tmp 1)⟩,⟨some 5,none,.len false (.tmp 4)⟩,⟨some 6,none,.bin 0 .sub (.tmp 5) (.const (.int .i64 1))⟩,⟨some 3,none,.mov (.tmp 6)⟩] _ H4 _
 have e1:fwrap .i64 ((n:Int)-1)=(n:Int)-1:=fwi (by omega)
 (refine Ow.hopM rfl rfl ?_;simp only [S0,Nat.reduceEqDiff,Nat.reduceAdd,reduceIte,reduceCtorEq,hcb,List.getElem?_cons_zero])
 (refine Ow.popM rfl ?_;simp only [S0,Nat.reduceEqDiff,Nat.reduceAdd,reduceIte,reduceCtorEq])
 (refine Ow.popM rfl ?_;simp only [S0,Nat.reduceEqDiff,Nat.reduceAdd,reduceIte,reduceCtorEq,e1])
 (refine Ow.popM rfl ?_;simp only [S0,Nat.reduceEqDiff,Nat.reduceAdd,reduceIte,reduceCtorEq])
 refine Ow.nilM ?_
 refine bl_mono (hBl mm _ H4 ?_ ?_ hs6 (by decide)) fun b H5 hQ=>?_
 ·simp only [S0,Nat.reduceEqDiff,Nat.reduceAdd,reduceIte,reduceCtorEq]
 ·simp only [S0,Nat.reduceEqDiff,Nat.reduceAdd,reduceIte,reduceCtorEq];rw [en]
 rcases hQ with ⟨h1,h2,m',h3⟩ | ⟨h1,h2,m',h3⟩
 ·refine .inl ⟨h1,?_⟩
  have h4:=hs5.trans h3.noFix fun id h=>h
  have hG:W (std CX TB H ⟨Own [] [],fun _=>none⟩) TB IR.cat.iG ⟨env4,objC (catL L)⟩ fun c s=>c=.ret∧post IR.cat.res q c s:=by
   have h4:∀ O sg e,O=catL L→sg=false→e=0→q (.t [.a [.s 0,.b sg],.i .i64 e]) [.u O]:=fun O sg e h1 h5 h6=>by rw [hq];exact .inl ⟨decide_eq_true ⟨hne,h2⟩,_,_,_,rfl,rfl,h1,h5,h6⟩
   generalize std CX TB H ⟨Own [] [],fun _=>none⟩=G
   have h5:=h4 (catL L) false 0 rfl rfl rfl
   generalize catL L=O at h5 ⊢
   clear hq h4
   cbv
   exact h5
  refine (W_ok hG h4).mono ?_
  rintro c E6 H6 ⟨s6,m6,⟨rfl,hp⟩,hs7⟩
  exact ⟨rfl,fin_of (post_ok hs7 hp)⟩
 ·refine .inr ⟨h1,?_⟩
  have h4:=hs5.trans h3 fun id h=>h
  have hp:post IR.cat.res q .ret ⟨(T.nil.set 2 (SV.o 0 0)).set 3 (.o 1 0),objF⟩:=by
   have h5:∀ sg e,sg=false→e=12→q (.t [.a [.nil,.b sg],.i .i64 e]) []:=fun sg e h5 h6=>by
    rw [hq];exact .inr ⟨decide_eq_false (fun h=>absurd h.2 (by omega)),_,_,rfl,rfl,h5,by rw [if_neg hne];exact h6⟩
   clear hq
   cbv
   exact h5 _ _ rfl rfl
  exact fin_of (post_ok h4 hp)
end Go.Proofs.YtdgbdkfoeaollaaGreatDoor.V0
end
section
set_option linter.unusedSimpArgs false
set_option linter.unusedVariables false
namespace Go.Proofs.YtdgbdkfoeaollaaGreatDoor.V
open Go Go.AL Go.SX
def RVE (l:List Int) (sg:Bool) (r:SV) (ro:List SX.Obj):Prop:=∃ l' sg',r=.t [.a [.s 0,.b sg'],.n .i64 0]∧ro=[.u l']∧l'=l∧sg'=sg
theorem kre {k:Nat} {args:List SV} {ao:List SX.Obj} {c:Bool} {l:List Int} {sg:Bool} {e:Int} (h:FvC CX TB (.f k [] []) args ao (RE c l sg e)) (hc:c=true):FvC CX TB (.f k [] []) args ao (RVE l sg):=by
 intro H m vf vs h1 h2 h3 h4
 obtain ⟨k',fs,cs,e',hr⟩:=h H m vf vs h1 h2 h3 h4
 refine ⟨k',fs,cs,e',hr.mono ?_⟩
 rintro v H' ⟨m',r,ro,q,q1,q2,q3,q4,q5⟩
 rcases q with ⟨_,l',sg',e1,rfl,rfl,hl,hs,rfl⟩ | ⟨hf,_⟩
 ·exact ⟨m',_,_,⟨l',sg',rfl,rfl,hl,hs⟩,q1,q2,q3,q4,q5⟩
 ·rw [hc] at hf;cases hf
theorem kre_f (n:Nat) {k:Nat} {args:List SV} {ao:List SX.Obj} {c:Bool} {l:List Int} {sg:Bool} {e:Int} (h:FvC CX TB (.f k [] []) args ao (RE c l sg e)) (hc:c=false) (he:e=(n:Int)):FvC CX TB (.f k [] []) args ao (fun r ro=>r=.t [.a [.nil,.kb false],.n .i64 n]∧ro=[]):=by
 intro H m vf vs h1 h2 h3 h4
 obtain ⟨k',fs,cs,e',hr⟩:=h H m vf vs h1 h2 h3 h4
 refine ⟨k',fs,cs,e',hr.mono ?_⟩
 rintro v H' ⟨m',r,ro,q,q1,q2,q3,q4,q5⟩
 rcases q with ⟨hf,_⟩ | ⟨_,sg',e1,rfl,rfl,rfl,rfl⟩
 ·rw [hc] at hf;cases hf
 ·subst he
  exact ⟨m',_,_,⟨rfl,rfl⟩,q1,q2,q3,q4,q5⟩
theorem concat2_ok (l m:List Int) (s t:Bool) (hl:l.length<2^15) (hm:m.length<2^15):FvC CX TB (.f 24 [] []) [.r 2 [.u l,.b s,.u m,.b t]] [] (RE (decide ((nB m).length+(nB l).length≤128)) (nB m++nB l) false 12):=by
 have:=V0.concat_ok [(l,s),(m,t)] (fun p hp=>by
  simp only [List.mem_cons,List.not_mem_nil,or_false] at hp
  rcases hp with rfl | rfl
  ·exact hl
  ·exact hm) (by simp)
 have e:V0.catL [(l,s),(m,t)]=nB m++nB l:=by simp [V0.catL]
 rw [e] at this
 refine this.mono fun r ro h=>?_
 have e2:decide ([(l,s),(m,t)]≠[]∧(nB m++nB l).length≤128)=decide ((nB m).length+(nB l).length≤128):=by simp [List.length_append]
 rw [e2] at h
 simpa using h
end Go.Proofs.YtdgbdkfoeaollaaGreatDoor.V
end
section
set_option linter.unusedSimpArgs false
set_option linter.unusedVariables false
namespace Go.Proofs.YtdgbdkfoeaollaaGreatDoor.V
open Go Go.AL Go.SX
theorem bFromInt_ok (n:Int) (w:Nat) (W:Int) (hW:W=(w:Int)) (hw:w≤128) (h:I64 n):FvC CX TB (.f 103 [] []) [.i .i64 n,.i .i64 W] [] (fun r ro=>∃ l e,r=.t [.bl l,.i .i64 e]∧ro=[]∧l=X.ofI w n∧e=0):=
 br_any fun H vs hd=>by
  obtain ⟨v1,ws,rfl,h1,v2,ws',rfl,h2,rfl⟩:=hd
  subst h1 h2 hW
  exact (X.bFromInt_any ext0V h.1 (by have:=h.2;omega)).mono fun r H' ⟨h3,h4⟩=>by
   rw [if_neg (by omega)] at h4
   obtain ⟨v,rfl,h5⟩:=h4
   rw [Int.toNat_natCast] at h5
   exact ⟨h3,_,⟨_,_,rfl,rfl,rfl,rfl⟩,_,rfl,_,_,rfl,isR_rdS h5,_,_,rfl,rfl,rfl⟩
theorem fromInt_ok (n w:Int) (s:Bool) (h:I64 n):FvC CX TB (.f 20 [] []) [.i .i64 n,.i .i64 w,.b s] [] (RE (okW w) (intL (X.ofI w.toNat n)) s 12):=by
 refine fn_ok rfl rfl fun B D G hG q hq=>?_
 cbv
 refine call hG [] (width_ok w) ⟨rfl,rfl,rfl⟩ ?_
 rintro _ _ ⟨c,rfl,rfl,hc⟩
 cbv
 refine SX.ite hG (fun h1=>?_) (fun h1=>?_)
 ·have e:c=false:=by rw [hG] at h1;simpa [std] using h1
  exact hq _ _ (.inr ⟨by rw [←hc];exact e,_,_,rfl,rfl,rfl,rfl⟩)
 have e:c=true:=by rw [hG] at h1;simpa [std] using h1
 have hw:1≤w∧w≤128:=by
  rw [hc] at e
  unfold okW at e
  simpa using e
 have hW:w=((w.toNat:Nat):Int):=by omega
 refine call hG [] (bFromInt_ok n w.toNat w hW (by omega) h) ⟨rfl,rfl,rfl⟩ ?_
 rintro _ _ ⟨l,z,rfl,rfl,hl,hz⟩
 cbv
 refine call hG [] (vector_ok l s (by rw [hl,X.ofI_length];omega)) ⟨rfl,rfl,rfl⟩ ?_
 rintro _ _ ⟨M,t,rfl,rfl,hM,ht⟩
 cbv
 exact hq _ _ (.inl ⟨by rw [←hc];exact e,_,_,_,rfl,rfl,by rw [hM,hl],ht,hz⟩)
end Go.Proofs.YtdgbdkfoeaollaaGreatDoor.V
end
section
set_option linter.unusedSimpArgs false
set_option linter.unusedVariables false
namespace Go.Proofs.YtdgbdkfoeaollaaGreatDoor.V
open Go Go.AL Go.SX
end Go.Proofs.YtdgbdkfoeaollaaGreatDoor.V
end
section
set_option linter.unusedSimpArgs false
set_option linter.unusedVariables false
set_option maxRecDepth 100000
namespace Go.Proofs.YtdgbdkfoeaollaaGreatDoor.V
open Go Go.AL Go.SX
end Go.Proofs.YtdgbdkfoeaollaaGreatDoor.V
end
section
set_option linter.unusedSimpArgs false
set_option linter.unusedVariables false
set_option maxRecDepth 100000
namespace Go.Proofs.YtdgbdkfoeaollaaGreatDoor.V
open Go Go.AL Go.SX
theorem vunk_ok (w:Int) (s:Bool):FvC CX TB (.f 21 [] []) [.i .i64 w,.b s] [] (RE (okW w) (List.replicate w.toNat 2) s 12):=by
 refine fn_ok rfl rfl fun B D G hG q hq=>?_
 cbv
 refine call hG [] (width_ok w) ⟨rfl,rfl,rfl⟩ ?_
 rintro _ _ ⟨c,rfl,rfl,hc⟩
 cbv
 refine SX.ite hG (fun h1=>?_) (fun h1=>?_)
 ·have e:c=false:=by rw [hG] at h1;simpa [std] using h1
  exact hq _ _ (.inr ⟨by rw [←hc];exact e,_,_,rfl,rfl,rfl,rfl⟩)
 have e:c=true:=by rw [hG] at h1;simpa [std] using h1
 have hw:1≤w∧w≤128:=by
  rw [hc] at e
  unfold okW at e
  simpa using e
 refine call hG [] (fill_ok (.ofNat 2) w s (by omega)) ⟨rfl,rfl,rfl⟩ ?_
 rintro _ _ ⟨Z,z,rfl,rfl,hZ,hz⟩
 cbv
 exact hq _ _ (.inl ⟨by rw [←hc];exact e,_,_,_,rfl,rfl,hZ,hz,rfl⟩)
end Go.Proofs.YtdgbdkfoeaollaaGreatDoor.V
end
