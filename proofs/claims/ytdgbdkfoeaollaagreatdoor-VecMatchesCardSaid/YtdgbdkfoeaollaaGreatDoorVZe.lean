/- The reference's Fill; the operators' tables; a loop's state cut down. -/
import Derived.Test.YtdgbdkfoeaollaaGreatDoorVZd
import Derived.Test.YtdgbdkfoeaollaaGreatDoorALe
import Derived.Test.YtdgbdkfoeaollaaGreatDoorVG
section
set_option linter.unusedSimpArgs false
set_option linter.unusedVariables false
set_option maxRecDepth 100000
namespace Go.Proofs.YtdgbdkfoeaollaaGreatDoor.V
open Go Go.AL Go.SX
theorem lp_le {B:AH} {d:Nat→Prop} {G:Sg} {b:IC} {s s':SX.St} {k:Ctl→SX.St→Prop} (hG:G=std CX TB B ⟨d,fun _=>none⟩) (hl:Le s s') (h:G.lp b s' k):G.lp b s k:=by
 subst hG
 exact fun m E H hs=>h _ E H (hs.le hl)
theorem rfill_ok (b w:Int) (s:Bool) (hw:1≤w∧w<2^15):FvC CX TB (.f 19 [] []) [.i .u8 b,.i .i64 w,.b s] [] (RV (List.replicate w.toNat b) s):=by
 obtain ⟨W,hW⟩:∃ W:Nat,w=(W:Int):=⟨w.toNat,by omega⟩
 have hWlt:W<2^15:=by omega
 refine fn_ok rfl rfl fun B D G hG q hq=>?_
 cbv
 refine lp_regB hG 1 0 (.u []) rfl rfl ?_
 refine lp hG (α:=Int×List Int) (fun p=>∃ n:Nat,p.1=(n:Int)∧n≤W∧p.2=List.replicate n b) (fun p=>W-p.1.toNat) (fun s p=>(s.put (some 8) (.i .i64 p.1)).setO 2 (.u p.2)) (0,[]) ⟨0,rfl,Nat.zero_le _,rfl⟩ (by constructor<;>cbv<;>simp) ?_
 rintro ⟨j,L⟩ ⟨n,hj,hn,hL⟩
 have hL:L=List.replicate n b:=hL
 have hlen:L.length=n:=by rw [hL,List.length_replicate]
 cbv
 have hj:j=(n:Int):=hj
 refine SX.ite hG (fun h3=>?_) (fun h3=>?_)
 ·have h3:n<W:=by
   rw [hG,hj,hW] at h3
   have h3:(n:Int)<(W:Int):=of_decide_eq_true h3
   omega
  have hap:∀ x:Int,G.ap (G.lu L) (G.lu [x]):=fun x=>by subst hG;simp only [std];simp;omega
  have e:G.apu L [b]=List.replicate (n+1) b:=by rw [List.replicate_succ',←hL,hG];rfl
  refine ⟨hap _,?_⟩
  exact ⟨(G.ar .add .i64 j (Int.ofNat 1),G.apu L [b]),⟨n+1,inc hG hj (by omega),h3,e⟩,mu hj (inc hG hj (by omega)) h3,by constructor<;>cbv<;>simp⟩
 ·have h3:W≤n:=by
   rw [hG,hj,hW] at h3
   have h3:¬ (n:Int)<(W:Int):=of_decide_eq_false h3
   omega
  refine hq _ _ ⟨_,_,rfl,rfl,?_,rfl⟩
  rw [hL,hW,show n=W by omega];rfl
def twosL:List SV:=[.n .u8 37,.f 82 [] [],.n .u8 38,.f 31 [] [],.n .u8 39,.f 83 [] [],.n .u8 40,.f 84 [] [],.n .u8 21,.f 30 [] [],.n .u8 22,.f 80 [] [],.n .u8 23,.f 81 [] [],.n .u8 24,.f 32 [] [],.n .u8 25,.f 34 [] [],.n .u8 26,.f 35 [] [],.n .u8 27,.f 85 [] [],.n .u8 28,.f 54 [] [],.n .u8 31,.f 50 [] [],.n .u8 32,.f 52 [] [],.n .u8 33,.f 53 [] [],.n .u8 34,.f 51 [] [],.n .u8 35,.f 47 [] [],.n .u8 36,.f 48 [] [],.n .u8 41,.f 36 [] [],.n .u8 42,.f 37 [] [],.n .u8 43,.f 39 [] [],.n .u8 44,.f 38 [] [],.n .u8 29,.f 55 [] [],.n .u8 30,.f 56 [] []]
theorem twos_ok:FvC CX TB (.f 15 [] []) [] [] (fun r ro=>r=.os 0 0 24 2∧ro=[.x twosL]):=by
 refine fn_ok rfl rfl fun B D G hG q hq=>?_
 cbv
 exact hq _ _ ⟨rfl,rfl⟩
end Go.Proofs.YtdgbdkfoeaollaaGreatDoor.V
end
section
set_option linter.unusedSimpArgs false
set_option linter.unusedVariables false
namespace Go.Proofs.YtdgbdkfoeaollaaGreatDoor.V
open Go Go.AL Go.SX
theorem all_false {l:List Int} {p:Int→Bool} {n:Nat} (hn:n<l.length) (h:p (gu l n)=false):l.all p=false:=by
 rw [Bool.eq_false_iff]
 intro ha
 have:=List.all_eq_true.1 ha _ (gu_mem hn)
 rw [h] at this;cases this
theorem rknown4_ok (l:List Int) (s:Bool) (hl:l.length<2^20) (hb:Byt l):FvC CX TB (.f 69 [] []) [.a [.u l,.b s]] [] (RB (kn (nB l))):=by
 have nv:=nB_nv hb
 refine fn_ok rfl rfl fun B D G hG q hq=>?_
 cbv
 refine call hG [] (rnorm_ok l s hl) ⟨rfl,rfl,rfl⟩ ?_
 rintro _ _ ⟨M,t,rfl,rfl,hM,ht⟩
 cbv
 have nvM:NV M:=by rw [hM];exact nv
 have hlen:=nvM.len
 rw [←hM] at hq
 refine lp hG (α:=Int) (fun j=>∃ n:Nat,j=(n:Int)∧n≤M.length∧∀ i:Nat,i<n→bKn (gu M i)=true) (fun j=>M.length-j.toNat) (fun s j=>s.put (some 3) (.i .i64 j)) 0 ⟨0,rfl,Nat.zero_le _,by simp⟩ (by constructor<;>cbv<;>simp) ?_
 rintro j ⟨n,hj,hn,hi⟩
 cbv
 refine SX.ite hG (fun h3=>?_) (fun h3=>?_)
 ·have h3:n<M.length:=by simpa [hG,std,cmpS,arS,beqS,hj] using h3
  have v2:G.ix j (G.lu M):=by rw [hG,hj];show 0≤(n:Int)∧(n:Int)<(M.length:Int);omega
  have hgu:G.gu M j=gu M n:=by rw [hG,hj];rfl
  refine ⟨v2,v2,?_⟩
  refine call hG [] (rKnown_ok (G.gu M j) (by rw [hgu];exact nvM.v _ (gu_mem h3))) ⟨rfl,rfl,rfl⟩ ?_
  rintro _ _ ⟨c,rfl,rfl,hc⟩
  cbv
  rw [hgu] at hc
  have hj:j=(n:Int):=hj
  refine SX.ite hG (fun h4=>?_) (fun h4=>?_)
  ·have h4:c=false:=by rw [hG] at h4;simpa [std] using h4
   exact hq _ _ ⟨_,rfl,rfl,(all_false h3 (by rw [←hc];exact h4)).symm⟩
  ·have h4:c=true:=by rw [hG] at h4;simpa [std] using h4
   exact ⟨G.ar .add .i64 j (Int.ofNat 1),⟨n+1,inc hG hj (by omega),h3,fun i hlt=>by rcases Nat.lt_succ_iff_lt_or_eq.1 hlt with h | rfl;exact hi i h;rw [←hc];exact h4⟩,mu hj (inc hG hj (by omega)) h3,by constructor<;>cbv<;>simp⟩
 ·have h3:M.length≤n:=by simpa [hG,std,cmpS,arS,beqS,hj] using h3
  exact hq _ _ ⟨_,rfl,rfl,(all_gu fun i hlt=>hi i (by omega)).symm⟩
theorem rbools_ok (l:List Int) (s:Bool) (hne:l≠[]) (hl:l.length<2^20):FvC CX TB (.f 138 [] []) [.a [.u l,.b s]] [] (RL (boolL l)):=by
 refine fn_ok rfl rfl fun B D G hG q hq=>?_
 cbv
 refine lp_regT hG 3 (.b []) rfl rfl ?_
 refine lp hG (α:=Int×List Bool) (fun p=>∃ n:Nat,p.1=(n:Int)∧n≤l.length∧p.2=(boolL l).take n) (fun p=>l.length-p.1.toNat) (fun s p=>(s.put (some 4) (.i .i64 p.1)).setO 1 (.b p.2)) (0,[]) ⟨0,rfl,Nat.zero_le _,by simp⟩ (by constructor<;>cbv<;>simp) ?_
 rintro ⟨j,L⟩ ⟨n,hj,hn,hL⟩
 have hL:L=(boolL l).take n:=hL
 have hlen:L.length=n:=by rw [hL,List.length_take,boolL_len];omega
 cbv
 have hj:j=(n:Int):=hj
 refine SX.ite hG (fun h3=>?_) (fun h3=>?_)
 ·have h3:n<l.length:=by simpa [hG,std,cmpS,arS,beqS,hj] using h3
  have v1:G.ix j (G.lu l):=by rw [hG,hj];show 0≤(n:Int)∧(n:Int)<(l.length:Int);omega
  have hgu:G.gu l j=gu l n:=by rw [hG,hj];rfl
  have hap:∀ x:Bool,G.ap (G.lb L) (G.lb [x]):=fun x=>by subst hG;simp only [std];simp;omega
  refine ⟨v1,hap _,?_⟩
  have e:G.apb L [G.cmp .eql (G.gu l j) (Int.ofNat 1)]=(boolL l).take (n+1):=by
   rw [List.take_add_one,←hL]
   have h5:(boolL l)[n]?=some (gu l n == 1):=by
    unfold boolL gu
    rw [List.getElem?_map,Int.toNat_natCast,List.getElem?_eq_getElem h3];rfl
   rw [h5,hgu,hG];rfl
  exact ⟨(G.ar .add .i64 j (Int.ofNat 1),G.apb L [G.cmp .eql (G.gu l j) (Int.ofNat 1)]),⟨n+1,inc hG hj (by omega),h3,e⟩,mu hj (inc hG hj (by omega)) h3,by constructor<;>cbv<;>simp⟩
 ·have h3:l.length≤n:=by simpa [hG,std,cmpS,arS,beqS,hj] using h3
  exact hq _ _ ⟨_,rfl,rfl,by rw [hL,List.take_of_length_le (by rw [boolL_len];omega)]⟩
end Go.Proofs.YtdgbdkfoeaollaaGreatDoor.V
end
section
set_option linter.unusedSimpArgs false
set_option linter.unusedVariables false
set_option maxRecDepth 100000
namespace Go.Proofs.YtdgbdkfoeaollaaGreatDoor.V
open Go Go.AL Go.SX
theorem rsingle_ok (x:Int):FvC CX TB (.f 154 [] []) [.i .u8 x] [] (RV [x] false):=by
 refine fn_ok rfl rfl fun B D G hG q hq=>?_
 cbv
 exact hq _ _ ⟨_,_,rfl,rfl,rfl,rfl⟩
theorem rfromBools_ok (l:List Bool) (s:Bool) (hl:l.length<2^20):FvC CX TB (.f 145 [] []) [.bl l,.b s] [] (RV (intL l) s):=by
 refine fn_ok rfl rfl fun B D G hG q hq=>?_
 cbv
 refine lp_regB hG 1 0 (.u []) rfl rfl ?_
 refine lp hG (α:=Int×List Int) (fun p=>∃ n:Nat,p.1=(n:Int)∧n≤l.length∧p.2=(intL l).take n) (fun p=>l.length-p.1.toNat) (fun s p=>(s.put (some 6) (.i .i64 p.1)).setO 2 (.u p.2)) (0,[]) ⟨0,rfl,Nat.zero_le _,by simp⟩ (by constructor<;>cbv<;>simp) ?_
 rintro ⟨j,L⟩ ⟨n,hj,hn,hL⟩
 have hL:L=(intL l).take n:=hL
 have hlen:L.length=n:=by rw [hL,List.length_take,intL_len];omega
 cbv
 have hj:j=(n:Int):=hj
 refine SX.ite hG (fun h3=>?_) (fun h3=>?_)
 ·have h3:n<l.length:=by simpa [hG,std,cmpS,arS,beqS,hj] using h3
  have v1:G.ix j (G.lb l):=by rw [hG,hj];show 0≤(n:Int)∧(n:Int)<(l.length:Int);omega
  have hgb:G.gb l j=gb l n:=by rw [hG,hj];rfl
  refine ⟨v1,?_⟩
  refine call hG [] (rFromBool_ok (G.gb l j)) ⟨rfl,rfl,rfl⟩ ?_
  rintro _ _ ⟨c,rfl,rfl,hc⟩
  cbv
  rw [hgb] at hc
  have hj:j=(n:Int):=hj
  have hap:∀ x:Int,G.ap (G.lu L) (G.lu [x]):=fun x=>by subst hG;simp only [std];simp;omega
  refine ⟨hap _,okd hG rfl ?_⟩
  have e:G.apu L [c]=(intL l).take (n+1):=by
   rw [List.take_add_one,←hL]
   have h5:(intL l)[n]?=some (ofB (gb l n)):=by
    unfold intL gb
    rw [List.getElem?_map,Int.toNat_natCast,List.getElem?_eq_getElem h3];rfl
   rw [h5,hc,hG];rfl
  exact ⟨(G.ar .add .i64 j (Int.ofNat 1),G.apu L [c]),⟨n+1,inc hG hj (by omega),h3,e⟩,mu hj (inc hG hj (by omega)) h3,by constructor<;>cbv<;>simp⟩
 ·have h3:l.length≤n:=by simpa [hG,std,cmpS,arS,beqS,hj] using h3
  exact hq _ _ ⟨_,_,rfl,rfl,by rw [hL,List.take_of_length_le (by rw [intL_len];omega)],rfl⟩
end Go.Proofs.YtdgbdkfoeaollaaGreatDoor.V
end
section
set_option linter.unusedSimpArgs false
set_option linter.unusedVariables false
set_option maxRecDepth 100000
namespace Go.Proofs.YtdgbdkfoeaollaaGreatDoor.V
open Go Go.AL Go.SX
def pwF (op:Int):Int→Int→Int:=if op=37 then bAnd else if op=38 then bOr else if op=39 then bXor else bEq
theorem cmp_t {B:AH} {D:Bs} {G:Sg} (hG:G=std CX TB B D) {a b:Int} (h:G.cmp .eql a b=true):a=b:=by
 rw [hG] at h
 have h:(a == b)=true:=h
 exact eq_of_beq h
theorem cmp_f {B:AH} {D:Bs} {G:Sg} (hG:G=std CX TB B D) {a b:Int} (h:G.cmp .eql a b=false):a≠b:=by
 rw [hG] at h
 have h:(a == b)=false:=h
 exact ne_of_beq_false h
theorem rpair_ok (op:Int) (L M:List Int) (s t:Bool) (nL:NV L) (nM:NV M) (e:L.length=M.length):FvC CX TB (.f 159 [] []) [.i .u8 op,.a [.s 0,.b s],.a [.u M,.b t]] [.u L] (RV (zipW (pwF op) L M) s):=by
 have lL:=nL.len
 refine fn_ok rfl rfl fun B D G hG q hq=>?_
 cbv
 refine lp hG (α:=Int×List Int) (fun p=>∃ n:Nat,p.1=(n:Int)∧n≤L.length∧p.2.length=L.length∧∀ i:Nat,i<L.length→gu p.2 i=if i<n then pwF op (gu L i) (gu M i) else gu L i) (fun p=>L.length-p.1.toNat) (fun s p=>(s.put (some 7) (.i .i64 p.1)).setO 0 (.u p.2)) (0,L) ⟨0,rfl,Nat.zero_le _,rfl,by simp⟩ (by constructor<;>cbv<;>simp) ?_
 rintro ⟨j,W⟩ ⟨n,hj,hn,hW,hi⟩
 have hW:W.length=L.length:=hW
 cbv
 have hj:j=(n:Int):=hj
 have hi:∀ i:Nat,i<L.length→gu W i=if i<n then pwF op (gu L i) (gu M i) else gu L i:=hi
 refine SX.ite hG (fun h3=>?_) (fun h3=>?_)
 ·have h3:n<L.length:=by
   rw [hG,hj] at h3
   have h3:(n:Int)<(W.length:Int):=of_decide_eq_true h3
   omega
  have v1:G.ix j (G.lu M):=by rw [hG,hj];show 0≤(n:Int)∧(n:Int)<(M.length:Int);omega
  have v2:G.ix j (G.lu W):=by rw [hG,hj];show 0≤(n:Int)∧(n:Int)<(W.length:Int);omega
  have e1:G.gu W j=gu L n:=by rw [hG,hj];show gu W n=_;rw [hi n h3,if_neg (by omega)]
  have e2:G.gu M j=gu M n:=by rw [hG,hj];rfl
  have m1:V4 (G.gu W j):=by rw [e1];exact nL.v _ (gu_mem h3)
  have m2:V4 (G.gu M j):=by rw [e2];exact nM.v _ (gu_mem (by omega))
  have fin:∀ c:Int,c=pwF op (G.gu W j) (G.gu M j)→∀ i:Nat,i<L.length→gu (G.su W j c) i=if i<n+1 then pwF op (gu L i) (gu M i) else gu L i:=fun c hc i hlt=>by
   have hnx:G.su W j c=W.set n (pwF op (gu L n) (gu M n)):=by rw [hc,e1,e2,hG,hj];rfl
   rw [hnx,gu_set (by omega)]
   split
   ·rename_i e;rw [e,if_pos (by omega)]
   ·rw [hi i hlt]
    by_cases h5:i<n
    ·rw [if_pos h5,if_pos (by omega)]
    ·rw [if_neg h5,if_neg (by omega)]
  have len:∀ c:Int,(G.su W j c).length=L.length:=fun c=>by rw [hG];show (List.set _ _ _).length=_;simp [hW]
  refine SX.ite hG (fun k1=>?_) (fun k1=>?_)
  ·have k1:op=37:=cmp_t hG k1
   refine ⟨v2,v2,v1,?_⟩
   refine call hG [] (rAnd_ok _ _ m1 m2) ⟨rfl,rfl,rfl⟩ ?_
   rintro _ _ ⟨c,rfl,rfl,hc⟩
   cbv
   have hj:j=(n:Int):=hj
   refine ⟨v2,v2,okd hG rfl ?_⟩
   exact ⟨(G.ar .add .i64 j (Int.ofNat 1),G.su W j c),⟨n+1,inc hG hj (by omega),h3,len _,fin c (by rw [hc,k1];rfl)⟩,mu hj (inc hG hj (by omega)) h3,by constructor<;>cbv<;>simp⟩
  have k1:op≠37:=cmp_f hG k1
  refine SX.ite hG (fun k2=>?_) (fun k2=>?_)
  ·have k2:op=38:=cmp_t hG k2
   refine ⟨v2,v2,v1,?_⟩
   refine call hG [] (rOr_ok _ _ m1 m2) ⟨rfl,rfl,rfl⟩ ?_
   rintro _ _ ⟨c,rfl,rfl,hc⟩
   cbv
   have hj:j=(n:Int):=hj
   refine ⟨v2,v2,okd hG rfl ?_⟩
   exact ⟨(G.ar .add .i64 j (Int.ofNat 1),G.su W j c),⟨n+1,inc hG hj (by omega),h3,len _,fin c (by rw [hc,k2];rfl)⟩,mu hj (inc hG hj (by omega)) h3,by constructor<;>cbv<;>simp⟩
  have k2:op≠38:=cmp_f hG k2
  refine SX.ite hG (fun k3=>?_) (fun k3=>?_)
  ·have k3:op=39:=cmp_t hG k3
   refine ⟨v2,v2,v1,?_⟩
   refine call hG [] (rXor_ok _ _ m1 m2) ⟨rfl,rfl,rfl⟩ ?_
   rintro _ _ ⟨c,rfl,rfl,hc⟩
   cbv
   have hj:j=(n:Int):=hj
   refine ⟨v2,v2,okd hG rfl ?_⟩
   exact ⟨(G.ar .add .i64 j (Int.ofNat 1),G.su W j c),⟨n+1,inc hG hj (by omega),h3,len _,fin c (by rw [hc,k3];rfl)⟩,mu hj (inc hG hj (by omega)) h3,by constructor<;>cbv<;>simp⟩
  have k3:op≠39:=cmp_f hG k3
  refine ⟨v2,v2,v1,?_⟩
  refine call hG [] (rEq_ok _ _ m1 m2) ⟨rfl,rfl,rfl⟩ ?_
  rintro _ _ ⟨c,rfl,rfl,hc⟩
  cbv
  have hj:j=(n:Int):=hj
  refine ⟨v2,v2,okd hG rfl ?_⟩
  exact ⟨(G.ar .add .i64 j (Int.ofNat 1),G.su W j c),⟨n+1,inc hG hj (by omega),h3,len _,fin c (by rw [hc,pwF,if_neg k1,if_neg k2,if_neg k3])⟩,mu hj (inc hG hj (by omega)) h3,by constructor<;>cbv<;>simp⟩
 ·have h3:L.length≤n:=by
   rw [hG,hj] at h3
   have h3:¬ (n:Int)<(W.length:Int):=of_decide_eq_false h3
   omega
  refine hq _ _ ⟨_,_,rfl,rfl,?_,rfl⟩
  refine gu_ext (by rw [hW,zipW_len]) fun i hlt=>?_
  rw [hi i (by omega),if_pos (by omega),zipW_get (by omega)]
end Go.Proofs.YtdgbdkfoeaollaaGreatDoor.V
end
section
set_option linter.unusedSimpArgs false
set_option linter.unusedVariables false
set_option maxRecDepth 100000
namespace Go.Proofs.YtdgbdkfoeaollaaGreatDoor.V
open Go Go.AL Go.SX
theorem rbadd_ok (a b:List Bool) (ha:a.length<2^20) (hb:b.length<2^20):FvC CX TB (.f 188 [] []) [.bl a,.bl b] [] (RBL (addF a b)):=
 br2 fun H v w h1 h2=>(X.radd_any ext0V h1 h2 (by omega) (by omega)).mono fun r H' ⟨h3,h4⟩=>cm_bl h3 h4
theorem rbsub_ok (a b:List Bool) (ha:a.length<2^20) (hb:b.length<2^20):FvC CX TB (.f 189 [] []) [.bl a,.bl b] [] (RBL (subF a b)):=
 br2 fun H v w h1 h2=>(X.rsub_any ext0V h1 h2 (by omega)).mono fun r H' ⟨h3,h4⟩=>cm_bl h3 h4
theorem rbmul_ok (a b:List Bool) (ha:a.length<2^20) (hb:b.length<2^20):FvC CX TB (.f 190 [] []) [.bl a,.bl b] [] (RBL (mulF a b)):=
 br2 fun H v w h1 h2=>(X.rmul_any ext0V h1 h2 (by omega)).mono fun r H' ⟨h3,h4⟩=>cm_bl h3 h4
theorem rbpow_ok (a b:List Bool) (ha:a.length<2^20) (hb:b.length<2^20):FvC CX TB (.f 184 [] []) [.bl a,.bl b] [] (RBL (powF a b)):=
 br2 fun H v w h1 h2=>(X.rpow_any ext0V h1 h2 (by omega) (by omega)).mono fun r H' ⟨h3,h4⟩=>cm_bl h3 h4
theorem rbdivmod_ok (a b:List Bool) (ha:a.length<2^20) (hb:b.length<2^20):FvC CX TB (.f 191 [] []) [.bl a,.bl b] [] (RDM (dmQ false a b) (dmR false a b) (dmE b)):=
 br2 fun H v w h1 h2=>(X.rdivmod_any ext0V h1 h2 (by omega) (by omega)).mono fun r H' ⟨h3,h4⟩=>by
  unfold dmQ dmR dmE
  by_cases h:X.val b=0
  ·rw [if_pos h] at h4
   subst h4
   rw [if_pos h,if_pos h,if_pos h]
   exact dm_nil h3
  ·rw [if_neg h] at h4
   rw [if_neg h,if_neg h,if_neg h]
   obtain ⟨u,x,rfl,hu,hx⟩:=h4
   exact dm_some h3 hu hx
theorem rbsdivmod_ok (a b:List Bool) (ha:a.length<2^20) (hb:b.length<2^20):FvC CX TB (.f 192 [] []) [.bl a,.bl b] [] (RDM (dmQ true a b) (dmR true a b) (dmE b)):=
 br2 fun H v w h1 h2=>(X.rsdivmod_any ext0V h1 h2 (by omega) (by omega)).mono fun r H' ⟨h3,h4⟩=>by
  unfold dmQ dmR dmE
  by_cases h:X.val b=0
  ·rw [if_pos h] at h4
   subst h4
   rw [if_pos h,if_pos h,if_pos h]
   exact dm_nil h3
  ·rw [if_neg h] at h4
   rw [if_neg h,if_neg h,if_neg h]
   obtain ⟨u,x,rfl,hu,hx⟩:=h4
   exact dm_some h3 hu hx
theorem rbcmp_ok (a b:List Bool) (ha:a.length<2^20) (hb:b.length<2^20):FvC CX TB (.f 185 [] []) [.bl a,.bl b] [] (RI .i64 (X.cmpN (X.val a) (X.val b))):=
 br2 fun H v w h1 h2=>(X.rcmp_any ext0V h1 h2 (by omega) (by omega)).mono fun r H' ⟨h3,h4⟩=>⟨h3,_,⟨_,rfl,rfl,rfl⟩,h4⟩
theorem rbscmp_ok (a b:List Bool) (ha:a.length<2^20) (hb:b.length<2^20):FvC CX TB (.f 193 [] []) [.bl a,.bl b] [] (RI .i64 (X.scmpN a b)):=
 br2 fun H v w h1 h2=>(X.rscmp_any ext0V h1 h2 (by omega) (by omega)).mono fun r H' ⟨h3,h4⟩=>⟨h3,_,⟨_,rfl,rfl,rfl⟩,h4⟩
theorem rbUint_ok (l:List Bool) (hl:l.length<2^20):FvC CX TB (.f 176 [] []) [.bl l] [] (fun r ro=>∃ a b,r=.t [.i .u64 a,.b b]∧ro=[]∧a=(if X.val l<2^64 then ((X.val l:Nat):Int) else 0)∧b=decide (X.val l<2^64)):=
 br1 fun H v hv=>(X.rUint_any ext0V hv (by omega)).mono fun r H' ⟨h1,h2⟩=>by
  subst h2
  refine ⟨h1,?_⟩
  unfold X.uintV
  split
  ·rename_i h;exact ⟨_,⟨_,_,rfl,rfl,rfl,(decide_eq_true h).symm⟩,_,rfl,_,_,rfl,rfl,_,_,rfl,rfl,rfl⟩
  ·rename_i h;exact ⟨_,⟨_,_,rfl,rfl,rfl,(decide_eq_false h).symm⟩,_,rfl,_,_,rfl,rfl,_,_,rfl,rfl,rfl⟩
theorem rbNeg_ok (l:List Bool) (hl:l.length<2^20):FvC CX TB (.f 178 [] []) [.bl l] [] (RB (X.bx l (l.length-1))):=
 br1 fun H v hv=>(X.Negative_any ext0V hv (by omega)).mono fun r H' ⟨h1,h2⟩=>by
  subst h1 h2
  exact ⟨.refl _,_,⟨_,rfl,rfl,rfl⟩,rfl⟩
end Go.Proofs.YtdgbdkfoeaollaaGreatDoor.V
end
section
set_option linter.unusedSimpArgs false
set_option linter.unusedVariables false
set_option maxRecDepth 100000
namespace Go.Proofs.YtdgbdkfoeaollaaGreatDoor.V
open Go Go.AL Go.SX
def cpI (op:Int) (c:Int):Bool:=if op=31 then decide (c<0) else if op=32 then decide (c≤0) else if op=33 then decide (c > 0) else decide (c≥0)
def rcpL (op:Int) (L M:List Int) (g:Bool):Int:=
 if op=27 then (zipW bEq L M).foldl bAnd 1 else if op=28 then bNot ((zipW bEq L M).foldl bAnd 1)
 else if op=29 then ofB (eqF (fun x y=>x == y) L M) else if op=30 then ofB (!eqF (fun x y=>x == y) L M)
 else if kn L&&kn M then ofB (cpI op (cmpV g (boolL L) (boolL M))) else 2
theorem rcompare_ok (op:Int) (L M:List Int) (g:Bool) (nL:NV L) (nM:NV M) (e:L.length=M.length):FvC CX TB (.f 161 [] []) [.i .u8 op,.a [.u L,.b g],.a [.u M,.b g]] [] (RI .u8 (rcpL op L M g)):=by
 have lL:=nL.len
 have hkL:kn (nB L)=kn L:=by rw [nB_id nL]
 have hkM:kn (nB M)=kn M:=by rw [nB_id nM]
 refine fn_ok rfl rfl fun B D G hG q hq=>?_
 cbv
 refine lp hG (α:=Int×Int×Bool) (fun p=>∃ n:Nat,p.1=(n:Int)∧n≤L.length∧p.2.1=((zipW bEq L M).take n).foldl bAnd 1∧p.2.2=(List.range n).all (fun i=>gu L (i:Nat) == gu M (i:Nat))) (fun p=>L.length-p.1.toNat) (fun s p=>(((s.put (some 9) (.i .i64 p.1)).put (some 7) (.i .u8 p.2.1)).put (some 8) (.b p.2.2))) (0,1,true) ⟨0,rfl,Nat.zero_le _,by simp,by simp⟩ (by constructor<;>cbv<;>simp) ?_
 rintro ⟨j,x,y⟩ ⟨n,hj,hn,hx,hy⟩
 have hx:x=((zipW bEq L M).take n).foldl bAnd 1:=hx
 have hy:y=(List.range n).all (fun i=>gu L (i:Nat) == gu M (i:Nat)):=hy
 have hz4:NV (zipW bEq L M):=zipW_nv nL nM e bEq_44
 have hx4:V4 x:=by rw [hx];exact fold_4 bAnd_44 (by constructor<;>decide) (fun y hy=>hz4.v y (List.mem_of_mem_take hy))
 cbv
 have hj:j=(n:Int):=hj
 refine SX.ite hG (fun h3=>?_) (fun h3=>?_)
 ·have h3:n<L.length:=by simpa [hG,std,cmpS,arS,beqS,hj] using h3
  have v1:G.ix j (G.lu L):=by rw [hG,hj];show 0≤(n:Int)∧(n:Int)<(L.length:Int);omega
  have v2:G.ix j (G.lu M):=by rw [hG,hj];show 0≤(n:Int)∧(n:Int)<(M.length:Int);omega
  have e1:G.gu L j=gu L n:=by rw [hG,hj];rfl
  have e2:G.gu M j=gu M n:=by rw [hG,hj];rfl
  have m1:V4 (G.gu L j):=by rw [e1];exact nL.v _ (gu_mem h3)
  have m2:V4 (G.gu M j):=by rw [e2];exact nM.v _ (gu_mem (by omega))
  refine ⟨v1,v2,?_⟩
  refine call hG [] (rEq_ok _ _ m1 m2) ⟨rfl,rfl,rfl⟩ ?_
  rintro _ _ ⟨c,rfl,rfl,hc⟩
  cbv
  refine call hG [] (rAnd_ok x c hx4 (by rw [hc];exact bEq_44 _ _ m1 m2)) ⟨rfl,rfl,rfl⟩ ?_
  rintro _ _ ⟨d,rfl,rfl,hd⟩
  cbv
  rw [e1,e2] at hc
  have hzl:(zipW bEq L M).length=L.length:=zipW_len
  have ex:d=((zipW bEq L M).take (n+1)).foldl bAnd 1:=by
   rw [take_succ_gu (by omega),List.foldl_append,←hx,zipW_get h3,hd,hc];rfl
  have ey:(List.range (n+1)).all (fun i=>gu L (i:Nat) == gu M (i:Nat))=(y&&(gu L n == gu M n)):=by
   rw [List.range_succ,List.all_append,←hy];simp
  have hj:j=(n:Int):=hj
  have ec:G.cmp .eql (G.gu L j) (G.gu M j)=(gu L n == gu M n):=by rw [e1,e2,hG];rfl
  refine okd hG (by kernel_rfl) ?_
  refine SX.ite hG (fun h4=>?_) (fun h4=>?_)
  ·refine ⟨v1,v2,okd hG (by kernel_rfl) ?_⟩
   exact ⟨(G.ar .add .i64 j (Int.ofNat 1),d,G.cmp .eql (G.gu L j) (G.gu M j)),⟨n+1,inc hG hj (by omega),h3,ex,by rw [ey,h4];exact ec⟩,mu hj (inc hG hj (by omega)) h3,by constructor<;>cbv<;>simp⟩
  ·refine okd hG (by kernel_rfl) ?_
   exact ⟨(G.ar .add .i64 j (Int.ofNat 1),d,false),⟨n+1,inc hG hj (by omega),h3,ex,by rw [ey,h4];rfl⟩,mu hj (inc hG hj (by omega)) h3,by constructor<;>cbv<;>simp⟩
 ·have h3:L.length≤n:=by simpa [hG,std,cmpS,arS,beqS,hj] using h3
  have en:n=L.length:=by omega
  have hzl:(zipW bEq L M).length=L.length:=zipW_len
  have ex:x=(zipW bEq L M).foldl bAnd 1:=by rw [hx,List.take_of_length_le (by omega)]
  have ey:y=eqF (fun x y=>x == y) L M:=by
   rw [hy,en];unfold eqF;rw [decide_eq_true e];simp
  unfold rcpL at hq
  rw [←ex,←ey] at hq
  refine SX.ite hG (fun k1=>?_) (fun k1=>?_)
  ·rw [if_pos (show op=27 from cmp_t hG k1)] at hq
   exact hq _ _ ⟨_,rfl,rfl,rfl⟩
  rw [if_neg (show op≠27 from cmp_f hG k1)] at hq
  refine SX.ite hG (fun k2=>?_) (fun k2=>?_)
  ·rw [if_pos (show op=28 from cmp_t hG k2)] at hq
   refine call hG [] (rNot_ok x hx4) ⟨rfl,rfl,rfl⟩ ?_
   rintro _ _ ⟨z,rfl,rfl,hz⟩
   cbv
   exact hq _ _ ⟨_,rfl,rfl,hz⟩
  rw [if_neg (show op≠28 from cmp_f hG k2)] at hq
  refine SX.ite hG (fun k3=>?_) (fun k3=>?_)
  ·rw [if_pos (show op=29 from cmp_t hG k3)] at hq
   refine call hG [] (rFromBool_ok y) ⟨rfl,rfl,rfl⟩ ?_
   rintro _ _ ⟨z,rfl,rfl,hz⟩
   cbv
   exact hq _ _ ⟨_,rfl,rfl,hz⟩
  rw [if_neg (show op≠29 from cmp_f hG k3)] at hq
  refine SX.ite hG (fun k4=>?_) (fun k4=>?_)
  ·rw [if_pos (show op=30 from cmp_t hG k4)] at hq
   refine call hG [] (rFromBool_ok _) ⟨rfl,rfl,rfl⟩ ?_
   rintro _ _ ⟨z,rfl,rfl,hz⟩
   cbv
   exact hq _ _ ⟨_,rfl,rfl,by rw [hz,hG];rfl⟩
  rw [if_neg (show op≠30 from cmp_f hG k4)] at hq
  cases kl:kn (nB L) with
  | false=>
    refine call hG [] (kbr (c:=false) (rknown4_ok L g (by omega) (byt_nv nL)) kl) ⟨rfl,rfl,rfl⟩ ?_
    rintro _ _ ⟨rfl,rfl⟩
    cbv
    exact hq _ _ ⟨_,rfl,rfl,by rw [←hkL,kl];rfl⟩
  | true=>
    refine call hG [] (kbr (c:=true) (rknown4_ok L g (by omega) (byt_nv nL)) kl) ⟨rfl,rfl,rfl⟩ ?_
    rintro _ _ ⟨rfl,rfl⟩
    cbv
    cases km:kn (nB M) with
    | false=>
      refine call hG [] (kbr (c:=false) (rknown4_ok M g (by omega) (byt_nv nM)) km) ⟨rfl,rfl,rfl⟩ ?_
      rintro _ _ ⟨rfl,rfl⟩
      cbv
      exact hq _ _ ⟨_,rfl,rfl,by rw [←hkL,←hkM,kl,km];rfl⟩
    | true=>
      refine call hG [] (kbr (c:=true) (rknown4_ok M g (by omega) (byt_nv nM)) km) ⟨rfl,rfl,rfl⟩ ?_
      rintro _ _ ⟨rfl,rfl⟩
      cbv
      rw [if_pos (by rw [←hkL,←hkM,kl,km];rfl)] at hq
      have fin:∀ c z:Int,c=cmpV g (boolL L) (boolL M)→z=ofB (cpI op c)→q (.i .u8 z) []:=fun c z h1 h2=>hq _ _ ⟨_,rfl,rfl,by rw [h2,h1]⟩
      have fI:∀ c:Int,(op=31→cpI op c=G.cmp .lss c 0)∧(op≠31→op=32→cpI op c=G.cmp .leq c 0)∧(op≠31→op≠32→op=33→cpI op c=G.cmp .gtr c 0)∧(op≠31→op≠32→op≠33→cpI op c=G.cmp .geq c 0):=fun c=>by
       rw [hG]
       refine ⟨fun h=>?_,fun h1 h=>?_,fun h1 h2 h=>?_,fun h1 h2 h3=>?_⟩
       ·unfold cpI;rw [if_pos h];rfl
       ·unfold cpI;rw [if_neg h1,if_pos h];rfl
       ·unfold cpI;rw [if_neg h1,if_neg h2,if_pos h];rfl
       ·unfold cpI;rw [if_neg h1,if_neg h2,if_neg h3];rfl
      refine call hG [] (rbools_ok L g nL.ne (by omega)) ⟨rfl,rfl,rfl⟩ ?_
      rintro _ _ ⟨x1,rfl,rfl,hx1⟩
      cbv
      refine call hG [] (rbools_ok M g nM.ne (by omega)) ⟨rfl,rfl,rfl⟩ ?_
      rintro _ _ ⟨y1,rfl,rfl,hy1⟩
      cbv
      refine call hG [] (rbcmp_ok x1 y1 (by rw [hx1,boolL_len];omega) (by rw [hy1,boolL_len];omega)) ⟨rfl,rfl,rfl⟩ ?_
      rintro _ _ ⟨c,rfl,rfl,hc⟩
      cbv
      refine okd hG (by kernel_rfl) ?_
      refine SX.ite hG (fun k5=>?_) (fun k5=>?_)
      ·refine call hG [] (rbools_ok L g nL.ne (by omega)) ⟨rfl,rfl,rfl⟩ ?_
       rintro _ _ ⟨x2,rfl,rfl,hx2⟩
       cbv
       refine call hG [] (rbools_ok M g nM.ne (by omega)) ⟨rfl,rfl,rfl⟩ ?_
       rintro _ _ ⟨y2,rfl,rfl,hy2⟩
       cbv
       refine call hG [] (rbscmp_ok x2 y2 (by rw [hx2,boolL_len];omega) (by rw [hy2,boolL_len];omega)) ⟨rfl,rfl,rfl⟩ ?_
       rintro _ _ ⟨c2,rfl,rfl,hc2⟩
       cbv
       refine okd hG (by kernel_rfl) ?_
       have ec:c2=cmpV g (boolL L) (boolL M):=by rw [hc2,hx2,hy2,cmpV,if_pos k5]
       refine SX.ite hG (fun r1=>?_) (fun r1=>?_)
       ·refine call hG [] (rFromBool_ok _) ⟨rfl,rfl,rfl⟩ ?_
        rintro _ _ ⟨z,rfl,rfl,hz⟩
        cbv
        exact fin _ _ ec (by rw [hz,(fI c2).1 (cmp_t hG r1)];rfl)
       refine SX.ite hG (fun r2=>?_) (fun r2=>?_)
       ·refine call hG [] (rFromBool_ok _) ⟨rfl,rfl,rfl⟩ ?_
        rintro _ _ ⟨z,rfl,rfl,hz⟩
        cbv
        exact fin _ _ ec (by rw [hz,(fI c2).2.1 (cmp_f hG r1) (cmp_t hG r2)];rfl)
       refine SX.ite hG (fun r3=>?_) (fun r3=>?_)
       ·refine call hG [] (rFromBool_ok _) ⟨rfl,rfl,rfl⟩ ?_
        rintro _ _ ⟨z,rfl,rfl,hz⟩
        cbv
        exact fin _ _ ec (by rw [hz,(fI c2).2.2.1 (cmp_f hG r1) (cmp_f hG r2) (cmp_t hG r3)];rfl)
       refine call hG [] (rFromBool_ok _) ⟨rfl,rfl,rfl⟩ ?_
       rintro _ _ ⟨z,rfl,rfl,hz⟩
       cbv
       exact fin _ _ ec (by rw [hz,(fI c2).2.2.2 (cmp_f hG r1) (cmp_f hG r2) (cmp_f hG r3)];rfl)
      have ec:c=cmpV g (boolL L) (boolL M):=by rw [hc,hx1,hy1,cmpV,if_neg (by rw [k5];decide)]
      refine SX.ite hG (fun r1=>?_) (fun r1=>?_)
      ·refine call hG [] (rFromBool_ok _) ⟨rfl,rfl,rfl⟩ ?_
       rintro _ _ ⟨z,rfl,rfl,hz⟩
       cbv
       exact fin _ _ ec (by rw [hz,(fI c).1 (cmp_t hG r1)];rfl)
      refine SX.ite hG (fun r2=>?_) (fun r2=>?_)
      ·refine call hG [] (rFromBool_ok _) ⟨rfl,rfl,rfl⟩ ?_
       rintro _ _ ⟨z,rfl,rfl,hz⟩
       cbv
       exact fin _ _ ec (by rw [hz,(fI c).2.1 (cmp_f hG r1) (cmp_t hG r2)];rfl)
      refine SX.ite hG (fun r3=>?_) (fun r3=>?_)
      ·refine call hG [] (rFromBool_ok _) ⟨rfl,rfl,rfl⟩ ?_
       rintro _ _ ⟨z,rfl,rfl,hz⟩
       cbv
       exact fin _ _ ec (by rw [hz,(fI c).2.2.1 (cmp_f hG r1) (cmp_f hG r2) (cmp_t hG r3)];rfl)
      refine call hG [] (rFromBool_ok _) ⟨rfl,rfl,rfl⟩ ?_
      rintro _ _ ⟨z,rfl,rfl,hz⟩
      cbv
      exact fin _ _ ec (by rw [hz,(fI c).2.2.2 (cmp_f hG r1) (cmp_f hG r2) (cmp_f hG r3)];rfl)
end Go.Proofs.YtdgbdkfoeaollaaGreatDoor.V
end
section
set_option linter.unusedSimpArgs false
set_option linter.unusedVariables false
namespace Go.Proofs.YtdgbdkfoeaollaaGreatDoor.V
open Go Go.AL Go.SX
theorem eqF_iff {p:Int→Int→Bool} {l m:List Int} (h:l.length=m.length):eqF p l m=true↔∀ i:Nat,i<l.length→p (gu l i) (gu m i)=true:=by
 unfold eqF
 simp [h]
theorem mXY {l:List Int} {s:Bool} {m:List Int} {t:Bool}:(bX l s m t).length=(bY l s m t).length:=by rw [bX_len,bY_len]
def B01 (l:List Int):Prop:=∀ x∈l,x=0∨x=1
theorem kn_01 {l:List Int} (h:NV l) (hk:kn l=true):B01 l:=fun x hx=>by
 have:=List.all_eq_true.1 hk x hx
 have h1:x≤1:=of_decide_eq_true this
 have h2:=(h.v x hx).1
 omega
theorem rsz_01 {l:List Int} {s:Bool} {w:Nat} (h:NV l) (hb:B01 l):B01 (rsz l s w):=by
 intro x hx
 unfold rsz at hx
 split at hx
 ·exact hb x (List.mem_of_mem_take hx)
 ·rcases List.mem_append.1 hx with hx | hx
  ·exact hb x hx
  ·rw [(List.mem_replicate.1 hx).2]
   unfold top
   split
   ·exact hb _ (gu_mem (by have:=List.length_pos_iff.2 h.ne;omega))
   ·exact .inl rfl
theorem gu_ext' {l m:List Int} (h:l.length=m.length):l=m↔∀ i:Nat,i<l.length→gu l i=gu m i:=⟨fun e i _=>by rw [e],gu_ext h⟩
end Go.Proofs.YtdgbdkfoeaollaaGreatDoor.V
end
section
set_option linter.unusedSimpArgs false
set_option linter.unusedVariables false
set_option maxRecDepth 100000
namespace Go.Proofs.YtdgbdkfoeaollaaGreatDoor.V
open Go Go.AL Go.SX
def rmt (fr:Bool) (p q:Int):Bool:=p == 3||q == 3||(fr&&(p == 2||q == 2))||p == q
theorem rmt_f {p q:Int}:rmt false p q=mtc (fun x=>x == 3) p q:=by
 show (p == 3||q == 3||(false&&(p == 2||q == 2))||p == q)=(p == q||p == 3||q == 3)
 cases p == 3<;>cases q == 3<;>cases p == q<;>rfl
theorem rmt_t {p q:Int} (hp:V4 p) (hq:V4 q):rmt true p q=mtc (fun x=>!bKn x) p q:=by
 rcases hp.cases with rfl | rfl | rfl | rfl<;>rcases hq.cases with rfl | rfl | rfl | rfl<;>decide
section
variable (l m:List Int) (s t:Bool) (hl:l.length<2^14) (hm:m.length<2^14) (bl:Byt l) (bm:Byt m)
include hl hm bl bm
theorem rmatch_ok (fr:Bool):FvC CX TB (.f 90 [] []) [.a [.u l,.b s],.a [.u m,.b t],.b fr] [] (RB (eqF (rmt fr) (bX l s m t) (bY l s m t))):=by
 have nX:=bX_nv (s:=s) (t:=t) bl bm
 have nY:=bY_nv (s:=s) (t:=t) bl bm
 have hXY:(bX l s m t).length=(bY l s m t).length:=by rw [bX_len,bY_len]
 refine fn_ok rfl rfl fun B D G hG q hq=>?_
 cbv
 refine call hG [] (rbalance_ok l m s t hl hm bl bm) ⟨rfl,rfl,rfl⟩ ?_
 rintro _ _ ⟨X,Y,g,h,rfl,rfl,hX,hY,hg,hh⟩
 cbv
 rw [←hX,←hY] at hq
 rw [←hX] at nX
 rw [←hY] at nY
 rw [←hX,←hY] at hXY
 have hlen:=nX.len
 refine lp hG (α:=Int) (fun p=>∃ n:Nat,p=(n:Int)∧n≤X.length∧∀ i:Nat,i<n→rmt fr (gu X i) (gu Y i)=true) (fun p=>X.length-p.toNat) (fun s p=>s.put (some 9) (.i .i64 p)) 0 ⟨0,rfl,Nat.zero_le _,by simp⟩ (by constructor<;>cbv<;>simp) ?_
 rintro j ⟨n,hj,hn,hi⟩
 cbv
 have hj:j=(n:Int):=hj
 have hi:∀ i:Nat,i<n→rmt fr (gu X i) (gu Y i)=true:=hi
 refine SX.ite hG (fun h3=>?_) (fun h3=>?_)
 ·have h3:n<X.length:=by simpa [hG,std,cmpS,arS,beqS,hj] using h3
  have v1:G.ix j (G.lu X):=by rw [hG,hj];show 0≤(n:Int)∧(n:Int)<(X.length:Int);omega
  have v2:G.ix j (G.lu Y):=by rw [hG,hj];show 0≤(n:Int)∧(n:Int)<(Y.length:Int);omega
  have e1:G.gu X j=gu X n:=by rw [hG,hj];rfl
  have e2:G.gu Y j=gu Y n:=by rw [hG,hj];rfl
  have ok:rmt fr (G.gu X j) (G.gu Y j)=true→∀ i:Nat,i<n+1→rmt fr (gu X i) (gu Y i)=true:=fun h i hlt=>by
   rw [e1,e2] at h
   rcases Nat.lt_succ_iff_lt_or_eq.1 hlt with h' | rfl
   ·exact hi i h'
   ·exact h
  have no:rmt fr (G.gu X j) (G.gu Y j)=false→q (.b false) []:=fun h=>hq _ _ ⟨_,rfl,rfl,by
   symm
   rw [Bool.eq_false_iff]
   intro hx
   have:=(eqF_iff hXY).1 hx n h3
   rw [←e1,←e2,h] at this
   cases this⟩
  have cq:∀ a b:Int,G.cmp .eql a b=(a == b):=fun a b=>by rw [hG];rfl
  have cn:∀ a b:Int,G.cmp .neq a b=!(a == b):=fun a b=>by rw [hG];rfl
  refine ⟨v1,v1,v2,v2,okd hG (by kernel_rfl) ?_⟩
  have eqt:∀ a b:Int,G.cmp .eql a b=true→(a == b)=true:=fun a b h=>by rw [←cq];exact h
  have eqf:∀ a b:Int,G.cmp .eql a b=false→(a == b)=false:=fun a b h=>by rw [←cq];exact h
  have ok1:((G.gu X j == 3)=true∨(G.gu Y j == 3)=true∨(fr=true∧((G.gu X j == 2)=true∨(G.gu Y j == 2)=true))∨(G.gu X j == G.gu Y j)=true)→∀ i:Nat,i<n+1→rmt fr (gu X i) (gu Y i)=true:=fun h=>ok (by
   unfold rmt
   rcases h with h | h | ⟨h,h' | h'⟩ | h
   ·rw [h];simp
   ·rw [h];simp
   ·rw [h,h'];simp
   ·rw [h,h'];simp
   ·rw [h];simp)
  refine SX.ite hG (fun r1=>?_) (fun r1=>?_)
  ·exact ⟨G.ar .add .i64 j (Int.ofNat 1),⟨n+1,inc hG hj (by omega),h3,ok1 (.inl (eqt _ _ r1))⟩,mu hj (inc hG hj (by omega)) h3,by constructor<;>cbv<;>simp⟩
  refine SX.ite hG (fun r2=>?_) (fun r2=>?_)
  ·exact ⟨G.ar .add .i64 j (Int.ofNat 1),⟨n+1,inc hG hj (by omega),h3,ok1 (.inr (.inl (eqt _ _ r2)))⟩,mu hj (inc hG hj (by omega)) h3,by constructor<;>cbv<;>simp⟩
  refine SX.ite hG (fun r3=>?_) (fun r3=>?_)
  ·refine SX.ite hG (fun r4=>?_) (fun r4=>?_)
   ·exact ⟨G.ar .add .i64 j (Int.ofNat 1),⟨n+1,inc hG hj (by omega),h3,ok1 (.inr (.inr (.inl ⟨r3,.inl (eqt _ _ r4)⟩)))⟩,mu hj (inc hG hj (by omega)) h3,by constructor<;>cbv<;>simp⟩
   refine SX.ite hG (fun r5=>?_) (fun r5=>?_)
   ·exact ⟨G.ar .add .i64 j (Int.ofNat 1),⟨n+1,inc hG hj (by omega),h3,ok1 (.inr (.inr (.inl ⟨r3,.inr (eqt _ _ r5)⟩)))⟩,mu hj (inc hG hj (by omega)) h3,by constructor<;>cbv<;>simp⟩
   refine SX.ite hG (fun r6=>?_) (fun r6=>?_)
   ·have r7:(G.gu X j == G.gu Y j)=false:=by have r6:G.cmp .neq (G.gu X j) (G.gu Y j)=true:=r6;rw [cn] at r6;simpa using r6
    exact no (by unfold rmt;rw [show (G.gu X j == 3)=false from eqf _ _ r1,show (G.gu Y j == 3)=false from eqf _ _ r2,show (G.gu X j == 2)=false from eqf _ _ r4,show (G.gu Y j == 2)=false from eqf _ _ r5,r7];simp)
   ·have r7:(G.gu X j == G.gu Y j)=true:=by have r6:G.cmp .neq (G.gu X j) (G.gu Y j)=false:=r6;rw [cn] at r6;simpa using r6
    exact ⟨G.ar .add .i64 j (Int.ofNat 1),⟨n+1,inc hG hj (by omega),h3,ok1 (.inr (.inr (.inr r7)))⟩,mu hj (inc hG hj (by omega)) h3,by constructor<;>cbv<;>simp⟩
  refine SX.ite hG (fun r6=>?_) (fun r6=>?_)
  ·have r7:(G.gu X j == G.gu Y j)=false:=by have r6:G.cmp .neq (G.gu X j) (G.gu Y j)=true:=r6;rw [cn] at r6;simpa using r6
   exact no (by unfold rmt;rw [show (G.gu X j == 3)=false from eqf _ _ r1,show (G.gu Y j == 3)=false from eqf _ _ r2,r3,r7];simp)
  ·have r7:(G.gu X j == G.gu Y j)=true:=by have r6:G.cmp .neq (G.gu X j) (G.gu Y j)=false:=r6;rw [cn] at r6;simpa using r6
   exact ⟨G.ar .add .i64 j (Int.ofNat 1),⟨n+1,inc hG hj (by omega),h3,ok1 (.inr (.inr (.inr r7)))⟩,mu hj (inc hG hj (by omega)) h3,by constructor<;>cbv<;>simp⟩
 ·have h3:X.length≤n:=by simpa [hG,std,cmpS,arS,beqS,hj] using h3
  refine hq _ _ ⟨_,rfl,rfl,?_⟩
  symm
  exact (eqF_iff hXY).2 fun i hlt=>hi i (by omega)
end
end Go.Proofs.YtdgbdkfoeaollaaGreatDoor.V
end
section
set_option linter.unusedSimpArgs false
set_option linter.unusedVariables false
set_option maxRecDepth 100000
namespace Go.Proofs.YtdgbdkfoeaollaaGreatDoor.V
open Go Go.AL Go.SX
def arR (op:Int) (L M:List Int) (g:Bool):List Int:=
 if kn L&&kn M then
  if op=21 then intL (addF (boolL L) (boolL M)) else if op=22 then intL (subF (boolL L) (boolL M)) else if op=23 then intL (mulF (boolL L) (boolL M))
  else if dmE (boolL M)=0 then (if op=24 then intL (dmQ g (boolL L) (boolL M)) else intL (dmR g (boolL L) (boolL M))) else List.replicate L.length 2
 else List.replicate L.length 2
theorem rarith_ok (op:Int) (L M:List Int) (g:Bool) (nL:NV L) (nM:NV M):FvC CX TB (.f 160 [] []) [.i .u8 op,.a [.u L,.b g],.a [.u M,.b g]] [] (RV (arR op L M g) g):=by
 have lL:=nL.len
 have lM:=nM.len
 have pL:=List.length_pos_iff.2 nL.ne
 have hkL:kn (nB L)=kn L:=by rw [nB_id nL]
 have hkM:kn (nB M)=kn M:=by rw [nB_id nM]
 refine fn_ok rfl rfl fun B D G hG q hq=>?_
 cbv
 have hfw:1≤G.lu L∧G.lu L<2^15:=by rw [hG];show 1≤((L.length:Nat):Int)∧((L.length:Nat):Int)<2^15;omega
 have hlu:(G.lu L).toNat=L.length:=by rw [hG];rfl
 unfold arR at hq
 rw [←hkL,←hkM] at hq
 cases kl:kn (nB L) with
 | false=>
   refine call hG [] (kbr (c:=false) (rknown4_ok L g (by omega) (byt_nv nL)) kl) ⟨rfl,rfl,rfl⟩ ?_
   rintro _ _ ⟨rfl,rfl⟩
   cbv
   refine call hG [] (rfill_ok (.ofNat 2) (G.lu L) g hfw) ⟨rfl,rfl,rfl⟩ ?_
   rintro _ _ ⟨Z,z,rfl,rfl,hZ,hz⟩
   cbv
   exact hq _ _ ⟨_,_,rfl,rfl,by rw [hZ,hlu,kl];rfl,hz⟩
 | true=>
   refine call hG [] (kbr (c:=true) (rknown4_ok L g (by omega) (byt_nv nL)) kl) ⟨rfl,rfl,rfl⟩ ?_
   rintro _ _ ⟨rfl,rfl⟩
   cbv
   cases km:kn (nB M) with
   | false=>
     refine call hG [] (kbr (c:=false) (rknown4_ok M g (by omega) (byt_nv nM)) km) ⟨rfl,rfl,rfl⟩ ?_
     rintro _ _ ⟨rfl,rfl⟩
     cbv
     refine call hG [] (rfill_ok (.ofNat 2) (G.lu L) g hfw) ⟨rfl,rfl,rfl⟩ ?_
     rintro _ _ ⟨Z,z,rfl,rfl,hZ,hz⟩
     cbv
     exact hq _ _ ⟨_,_,rfl,rfl,by rw [hZ,hlu,kl,km];rfl,hz⟩
   | true=>
     refine call hG [] (kbr (c:=true) (rknown4_ok M g (by omega) (byt_nv nM)) km) ⟨rfl,rfl,rfl⟩ ?_
     rintro _ _ ⟨rfl,rfl⟩
     cbv
     rw [kl,km,if_pos (by decide)] at hq
     refine call hG [] (rbools_ok L g nL.ne (by omega)) ⟨rfl,rfl,rfl⟩ ?_
     rintro _ _ ⟨x,rfl,rfl,hx⟩
     cbv
     refine call hG [] (rbools_ok M g nM.ne (by omega)) ⟨rfl,rfl,rfl⟩ ?_
     rintro _ _ ⟨y,rfl,rfl,hy⟩
     cbv
     refine okd hG (by kernel_rfl) ?_
     have lx:x.length≤128:=by rw [hx,boolL_len];omega
     have ly:y.length≤128:=by rw [hy,boolL_len];omega
     rw [←hx,←hy] at hq
     refine SX.ite hG (fun k1=>?_) (fun k1=>?_)
     ·rw [if_pos (show op=21 from cmp_t hG k1)] at hq
      refine call hG [] (rbadd_ok x y (by omega) (by omega)) ⟨rfl,rfl,rfl⟩ ?_
      rintro _ _ ⟨r,rfl,rfl,hr⟩
      cbv
      refine call hG [] (rfromBools_ok r g (by rw [hr];show (X.ofN _ _).length<_;rw [ofN_len];omega)) ⟨rfl,rfl,rfl⟩ ?_
      rintro _ _ ⟨Z,z,rfl,rfl,hZ,hz⟩
      cbv
      exact okd hG (by kernel_rfl) (hq _ _ ⟨_,_,rfl,rfl,by rw [hZ,hr],hz⟩)
     rw [if_neg (show op≠21 from cmp_f hG k1)] at hq
     refine SX.ite hG (fun k2=>?_) (fun k2=>?_)
     ·rw [if_pos (show op=22 from cmp_t hG k2)] at hq
      refine call hG [] (rbsub_ok x y (by omega) (by omega)) ⟨rfl,rfl,rfl⟩ ?_
      rintro _ _ ⟨r,rfl,rfl,hr⟩
      cbv
      refine call hG [] (rfromBools_ok r g (by rw [hr];show (X.ofN _ _).length<_;rw [ofN_len];omega)) ⟨rfl,rfl,rfl⟩ ?_
      rintro _ _ ⟨Z,z,rfl,rfl,hZ,hz⟩
      cbv
      exact okd hG (by kernel_rfl) (hq _ _ ⟨_,_,rfl,rfl,by rw [hZ,hr],hz⟩)
     rw [if_neg (show op≠22 from cmp_f hG k2)] at hq
     refine SX.ite hG (fun k3=>?_) (fun k3=>?_)
     ·rw [if_pos (show op=23 from cmp_t hG k3)] at hq
      refine call hG [] (rbmul_ok x y (by omega) (by omega)) ⟨rfl,rfl,rfl⟩ ?_
      rintro _ _ ⟨r,rfl,rfl,hr⟩
      cbv
      refine call hG [] (rfromBools_ok r g (by rw [hr];show (X.ofN _ _).length<_;rw [ofN_len];omega)) ⟨rfl,rfl,rfl⟩ ?_
      rintro _ _ ⟨Z,z,rfl,rfl,hZ,hz⟩
      cbv
      exact okd hG (by kernel_rfl) (hq _ _ ⟨_,_,rfl,rfl,by rw [hZ,hr],hz⟩)
     rw [if_neg (show op≠23 from cmp_f hG k3)] at hq
     refine call hG [] (rbdivmod_ok x y (by omega) (by omega)) ⟨rfl,rfl,rfl⟩ ?_
     rintro _ _ ⟨q1,r1_,e1,rfl,rfl,hq1,hr1,he1⟩
     cbv
     refine SX.ite hG (fun k5=>?_) (fun k5=>?_)
     ·refine call hG [] (rbsdivmod_ok x y (by omega) (by omega)) ⟨rfl,rfl,rfl⟩ ?_
      rintro _ _ ⟨q2,r2_,e2,rfl,rfl,hq2,hr2,he2⟩
      cbv
      rw [show (dmQ true x y)=dmQ g x y from by rw [k5]] at hq2
      rw [show (dmR true x y)=dmR g x y from by rw [k5]] at hr2
      have nn:G.cmp .neq e2 0=!(e2 == 0):=by rw [hG];rfl
      refine SX.ite hG (fun r1=>?_) (fun r1=>?_)
      ·have r1:G.cmp .neq e2 0=true:=r1
       rw [nn] at r1
       have r2:(e2 == 0)=false:=by simpa using r1
       refine call hG [] (rfill_ok (.ofNat 2) (G.lu L) g hfw) ⟨rfl,rfl,rfl⟩ ?_
       rintro _ _ ⟨Z,z,rfl,rfl,hZ,hz⟩
       cbv
       rw [if_neg (by rw [←he2];exact ne_of_beq_false r2)] at hq
       exact hq _ _ ⟨_,_,rfl,rfl,by rw [hZ,hlu];rfl,hz⟩
      have r1:G.cmp .neq e2 0=false:=r1
      rw [nn] at r1
      have r2:e2=0:=by simpa using r1
      have r3:dmE y=0:=by rw [←he2];exact r2
      rw [if_pos r3] at hq
      have hlen:=dm_len (g:=g) (x:=x) r3
      refine SX.ite hG (fun k4=>?_) (fun k4=>?_)
      ·rw [if_pos (show op=24 from cmp_t hG k4)] at hq
       refine call hG [] (rfromBools_ok q2 g (by rw [hq2,hlen.1];omega)) ⟨rfl,rfl,rfl⟩ ?_
       rintro _ _ ⟨Z,z,rfl,rfl,hZ,hz⟩
       cbv
       exact hq _ _ ⟨_,_,rfl,rfl,by rw [hZ,hq2],hz⟩
      rw [if_neg (show op≠24 from cmp_f hG k4)] at hq
      refine call hG [] (rfromBools_ok r2_ g (by rw [hr2,hlen.2];omega)) ⟨rfl,rfl,rfl⟩ ?_
      rintro _ _ ⟨Z,z,rfl,rfl,hZ,hz⟩
      cbv
      exact hq _ _ ⟨_,_,rfl,rfl,by rw [hZ,hr2],hz⟩
     rw [show (dmQ false x y)=dmQ g x y from by rw [k5]] at hq1
     rw [show (dmR false x y)=dmR g x y from by rw [k5]] at hr1
     have nn:G.cmp .neq e1 0=!(e1 == 0):=by rw [hG];rfl
     refine SX.ite hG (fun r1=>?_) (fun r1=>?_)
     ·have r1:G.cmp .neq e1 0=true:=r1
      rw [nn] at r1
      have r2:(e1 == 0)=false:=by simpa using r1
      refine call hG [] (rfill_ok (.ofNat 2) (G.lu L) g hfw) ⟨rfl,rfl,rfl⟩ ?_
      rintro _ _ ⟨Z,z,rfl,rfl,hZ,hz⟩
      cbv
      rw [if_neg (by rw [←he1];exact ne_of_beq_false r2)] at hq
      exact hq _ _ ⟨_,_,rfl,rfl,by rw [hZ,hlu];rfl,hz⟩
     have r1:G.cmp .neq e1 0=false:=r1
     rw [nn] at r1
     have r2:e1=0:=by simpa using r1
     have r3:dmE y=0:=by rw [←he1];exact r2
     rw [if_pos r3] at hq
     have hlen:=dm_len (g:=g) (x:=x) r3
     refine SX.ite hG (fun k4=>?_) (fun k4=>?_)
     ·rw [if_pos (show op=24 from cmp_t hG k4)] at hq
      refine call hG [] (rfromBools_ok q1 g (by rw [hq1,hlen.1];omega)) ⟨rfl,rfl,rfl⟩ ?_
      rintro _ _ ⟨Z,z,rfl,rfl,hZ,hz⟩
      cbv
      exact hq _ _ ⟨_,_,rfl,rfl,by rw [hZ,hq1],hz⟩
     rw [if_neg (show op≠24 from cmp_f hG k4)] at hq
     refine call hG [] (rfromBools_ok r1_ g (by rw [hr1,hlen.2];omega)) ⟨rfl,rfl,rfl⟩ ?_
     rintro _ _ ⟨Z,z,rfl,rfl,hZ,hz⟩
     cbv
     exact hq _ _ ⟨_,_,rfl,rfl,by rw [hZ,hr1],hz⟩
end Go.Proofs.YtdgbdkfoeaollaaGreatDoor.V
end
