/- The seat's functions as contracts tell them: tables, Concat told from without, numbers. -/
import Derived.Test.YtdgbdkfoeaollaaGreatDoorIR
import Derived.Test.YtdgbdkfoeaollaaGreatDoorALe
import Derived.KernelRfl
import Derived.Test.YtdgbdkfoeaollaaGreatDoorBV
section
namespace Go.Proofs.YtdgbdkfoeaollaaGreatDoor.V
open Go Go.AL Go.SX
def andsL:List Int:=[0,0,0,0,0,1,2,2,0,2,2,2,0,2,2,2]
def orsL:List Int:=[0,1,2,2,1,1,1,1,2,1,2,2,2,1,2,2]
def xorsL:List Int:=[0,1,2,2,1,0,2,2,2,2,2,2,2,2,2,2]
def notsL:List Int:=[1,0,2,2]
def TB:List (List Int):=[orsL,notsL,andsL,xorsL]
def catN (N:Nat):List Value→AH→Option (Value×AH):=catEv (evF IR.ft noExt N) N N 165 IR.back IR.cat
def extK:Nat→Option (List Value→AH→Option (Value×AH)):=fun f=>if f=24 then some (catN 200) else none
noncomputable def extV (k:Nat):Option (List Value→AH→Option (Value×AH)):=if k=24 then some (anyN catN) else if k=11 then some (closedE IR.ft extK 4 1000 11) else none
noncomputable abbrev CX:Ctx:=⟨IR.ft,extV⟩
theorem catN_sim (N:Nat):SimG Tryz.prog 24 (catN N):=catEv_simG IR.mixed (evF_sim IR.mixed IR.ft_ok (fun f g hg=>by cases hg) N) IR.back_ok IR.cat_ok
theorem extK_sim:∀ f g,extK f=some g→SimG Tryz.prog f g:=by
 intro f g hg
 unfold extK at hg
 split at hg
 ·rename_i hf
  subst hf
  obtain rfl:=Option.some.inj hg
  exact catN_sim 200
 ·cases hg
theorem four:Tryz.prog.globals.size=4:=by kernel_rfl
theorem extV_sim:∀ f g,extV f=some g→SimG Tryz.prog f g:=by
 intro f g hg
 unfold extV at hg
 split at hg
 ·rename_i hf
  subst hf
  obtain rfl:=Option.some.inj hg
  exact anyN_sim catN_sim
 ·split at hg
  ·rename_i hf
   subst hf
   obtain rfl:=Option.some.inj hg
   have:=closedE_sim IR.mixed extK_sim IR.ft_ok 1000 11
   rw [four] at this
   exact this
  ·cases hg
theorem fwi {x:Int} (h:-(2^62)≤x∧x<2^62):fwrap .i64 x=x:=by
 rw [fwrap_eq]
 unfold IntKind.wrap
 simp only [show IntKind.bits .i64=64 from rfl,show IntKind.signed .i64=true from rfl,Bool.true_and,decide_eq_true_eq,Nat.reduceSub]
 split<;>omega
theorem inc {B:AH} {D:Bs} {G:Sg} (hG:G=std CX TB B D) {j:Int} {n:Nat} (hj:j=(n:Int)) (hn:n<2^40):G.ar .add .i64 j (Int.ofNat 1)=((n+1:Nat):Int):=by
 subst hG hj
 show fwrap .i64 ((n:Int)+1)=_
 rw [fwi (by omega)];rfl
theorem mu {j j':Int} {n N:Nat} (hj:j=(n:Int)) (hj':j'=((n+1:Nat):Int)) (h:n<N):N-j'.toNat<N-j.toNat:=by
 subst hj hj'
 rw [Int.toNat_natCast,Int.toNat_natCast];omega
theorem addi {B:AH} {D:Bs} {G:Sg} (hG:G=std CX TB B D) {a b:Int} (h:-(2^62)≤a+b∧a+b<2^62):G.ar .add .i64 a b=a+b:=by
 subst hG;exact fwi h
theorem subi {B:AH} {D:Bs} {G:Sg} (hG:G=std CX TB B D) {a b:Int} (h:-(2^62)≤a-b∧a-b<2^62):G.ar .sub .i64 a b=a-b:=by
 subst hG;exact fwi h
end Go.Proofs.YtdgbdkfoeaollaaGreatDoor.V
end
section
set_option linter.unusedSimpArgs false
set_option linter.unusedVariables false
namespace Go.Proofs.YtdgbdkfoeaollaaGreatDoor.V
open Go Go.AL Go.SX
def bnorm (x:Int):Int:=if x≤3 then x else 2
def bNot (a:Int):Int:=gu notsL (bnorm a)
def bBuf (a:Int):Int:=bNot (bNot a)
def bKn (a:Int):Bool:=decide (a≤1)
def bSame (a b:Int):Bool:=bnorm a == bnorm b
def bLeq (a b:Int):Bool:=bSame a b||(!bKn a&&bKn b)
def ofB (b:Bool):Int:=if b then 1 else 0
def V4 (x:Int):Prop:=0≤x∧x≤3
theorem V4.cases {x:Int} (h:V4 x):x=0∨x=1∨x=2∨x=3:=by unfold V4 at h;omega
theorem ofB_4 (b:Bool):V4 (ofB b):=by cases b<;>simp [ofB,V4]
theorem valid_ok (x:Int):FvC CX TB (.f 110 [] []) [.i .u8 x] [] (RB (decide (x≤3))):=by
 refine fn_ok rfl rfl fun B D G hG q hq=>?_
 cbv
 subst hG
 exact hq _ _ ⟨_,rfl,rfl,rfl⟩
theorem ofB_ok (b:Bool):FvC CX TB (.f 86 [] []) [.b b] [] (RI .u8 (ofB b)):=by
 refine fn_ok rfl rfl fun B D G hG q hq=>?_
 cbv
 refine SX.ite hG (fun h=>hq _ _ ⟨_,rfl,rfl,?_⟩) (fun h=>hq _ _ ⟨_,rfl,rfl,?_⟩)<;>rw [h]<;>rfl
theorem rFromBool_ok (b:Bool):FvC CX TB (.f 182 [] []) [.b b] [] (RI .u8 (ofB b)):=by
 refine fn_ok rfl rfl fun B D G hG q hq=>?_
 cbv
 refine SX.ite hG (fun h=>hq _ _ ⟨_,rfl,rfl,?_⟩) (fun h=>hq _ _ ⟨_,rfl,rfl,?_⟩)<;>rw [h]<;>rfl
end Go.Proofs.YtdgbdkfoeaollaaGreatDoor.V
end
section
set_option linter.unusedSimpArgs false
set_option linter.unusedVariables false
namespace Go.Proofs.YtdgbdkfoeaollaaGreatDoor.V
open Go Go.AL Go.SX
theorem clone_ok (l:List Int) (hl:l≠[]) (hn:l.length<2^20):FvC CX TB (.f 163 [] []) [.u l] [] (RU l):=by
 refine fn_ok rfl rfl fun B D G hG q hq=>?_
 cbv
 subst hG
 exact ⟨fun h=>absurd h hl,by simp only [std];omega,hq _ _ ⟨_,rfl,rfl,rfl⟩⟩
def chk (l:List Int):Int:=if l.length=0 then 4 else if 128<l.length then 5 else if l.all (fun x=>decide (x≤3)) then 0 else 1
theorem gu_mem {l:List Int} {n:Nat} (h:n<l.length):gu l n∈l:=by
 unfold gu
 rw [Int.toNat_natCast,List.getElem?_eq_getElem h]
 exact List.getElem_mem h
theorem gu_ext {l m:List Int} (h:l.length=m.length) (h2:∀ i:Nat,i<l.length→gu l i=gu m i):l=m:=by
 apply List.ext_getElem h
 intro i h3 h4
 have:=h2 i h3
 unfold gu at this
 rw [Int.toNat_natCast,List.getElem?_eq_getElem h3,List.getElem?_eq_getElem h4] at this
 exact this
theorem all_gu {l:List Int} {p:Int→Bool} (h:∀ i,i<l.length→p (gu l (i:Nat))=true):l.all p=true:=by
 rw [List.all_eq_true]
 intro x hx
 obtain ⟨i,hi,rfl⟩:=List.mem_iff_getElem.1 hx
 have:=h i hi
 unfold gu at this
 rwa [Int.toNat_natCast,List.getElem?_eq_getElem hi] at this
theorem check_ok (l:List Int) (s:Bool):FvC CX TB (.f 28 [] []) [.a [.u l,.b s]] [] (RI .i64 (chk l)):=by
 refine fn_ok rfl rfl fun B D G hG q hq=>?_
 cbv
 refine SX.ite hG (fun h1=>?_) (fun h1=>?_)
 ·have h1:l.length=0:=by simpa [hG,std,cmpS,arS,beqS] using h1
  exact hq _ _ ⟨_,rfl,rfl,by simp [chk,h1]⟩
 have h1:l.length≠0:=by simpa [hG,std,cmpS,arS,beqS] using h1
 refine SX.ite hG (fun h2=>?_) (fun h2=>?_)
 ·have h2:128<l.length:=by have hq_:=h2;simp [hG,std,cmpS,arS,beqS] at hq_;omega
  exact hq _ _ ⟨_,rfl,rfl,by rw [chk,if_neg h1,if_pos (by omega)];rfl⟩
 have h2:l.length≤128:=by have hq_:=h2;simp [hG,std,cmpS,arS,beqS] at hq_;omega
 have hchk:chk l=if l.all (fun x=>decide (x≤3)) then 0 else 1:=by rw [chk,if_neg h1,if_neg (by omega)]
 refine lp hG (α:=Int) (fun j=>∃ n:Nat,j=(n:Int)∧n≤l.length∧∀ i:Nat,i<n→gu l i≤3) (fun j=>l.length-j.toNat) (fun s j=>s.put (some 18) (.i .i64 j)) 0 ⟨0,rfl,Nat.zero_le _,by simp⟩ (by constructor<;>cbv<;>simp) ?_
 rintro j ⟨n,hj,hn,hi⟩
 cbv
 refine SX.ite hG (fun h3=>?_) (fun h3=>?_)
 ·have h3:n<l.length:=by simpa [hG,std,cmpS,arS,beqS,hj] using h3
  refine ⟨by simp [hG,std,hj,h3],?_⟩
  refine call hG [] (valid_ok _) ⟨rfl,rfl,rfl⟩ ?_
  rintro _ _ ⟨c,rfl,rfl,hc⟩
  cbv
  have hgu:G.gu l j=gu l n:=by rw [hG,hj];rfl
  rw [hgu] at hc
  refine SX.ite hG (fun h4=>?_) (fun h4=>?_)
  ·refine hq _ _ ⟨_,rfl,rfl,?_⟩
   rw [hchk,if_neg]
   ·rfl
   ·intro ha
    have:=List.all_eq_true.1 ha _ (gu_mem h3)
    simp [hG,std,hc] at h4 this
    omega
  ·exact ⟨G.ar .add .i64 j (Int.ofNat 1),⟨n+1,inc hG hj (by omega),h3,fun i hlt=>by rcases Nat.lt_succ_iff_lt_or_eq.1 hlt with h | rfl;exact hi i h;simpa [hG,std,hc] using h4⟩,mu hj (inc hG hj (by omega)) h3,by constructor<;>cbv<;>simp⟩
 ·have h3:l.length≤n:=by simpa [hG,std,cmpS,arS,beqS,hj] using h3
  refine hq _ _ ⟨_,rfl,rfl,?_⟩
  rw [hchk,if_pos (all_gu fun i hlt=>decide_eq_true (hi i (by omega)))]
  rfl
end Go.Proofs.YtdgbdkfoeaollaaGreatDoor.V
end
section
set_option linter.unusedSimpArgs false
set_option linter.unusedVariables false
namespace Go.Proofs.YtdgbdkfoeaollaaGreatDoor.V
open Go Go.AL Go.SX
theorem fwu {x:Int} (h:0≤x∧x<2^62):fwrap .u64 x=x:=by
 rw [fwrap_eq]
 unfold IntKind.wrap
 simp only [show IntKind.bits .u64=64 from rfl,show IntKind.signed .u64=false from rfl,Bool.false_and]
 show (if false=true then _ else x % 2^64)=x
 rw [if_neg (by simp)]
 omega
theorem andm {x:Int} (h:0≤x∧x<2^32):arS .and .u64 x 4294967295=x:=by
 obtain ⟨n,rfl⟩:=Int.eq_ofNat_of_zero_le h.1
 have hn:n<2^32:=by omega
 show IntKind.u64.wrap ((BitVec.ofInt 64 (n:Int) &&& BitVec.ofInt 64 4294967295).toNat:Int)=_
 have e:(BitVec.ofInt 64 (n:Int) &&& BitVec.ofInt 64 4294967295).toNat=n:=by
  rw [BitVec.toNat_and]
  have e1:(BitVec.ofInt 64 (n:Int)).toNat=n:=by simp [BitVec.toNat_ofInt];omega
  have e2:(BitVec.ofInt 64 4294967295).toNat=2^32-1:=by decide
  rw [e1,e2,Nat.and_two_pow_sub_one_eq_mod]
  omega
 rw [e,←fwrap_eq]
 exact fwu (by omega)
theorem shr32 {x:Int} (h:0≤x∧x<2^32):shS .shr .u64 x 32=0:=by
 show x.fdiv (2^(Nat.min (32:Int).toNat 64))=0
 have:(2:Int)^(Nat.min (32:Int).toNat 64)=2^32:=rfl
 rw [this,Int.fdiv_eq_ediv_of_nonneg _ (by decide)]
 omega
set_option maxRecDepth 8000 in
theorem mul64_ok (x y:Int) (hx:0≤x∧x<2^32) (hy:0≤y∧y<2^32) (hxy:x*y<2^32):FvC CX TB (.f 195 [] []) [.i .u64 x,.i .u64 y] [] (fun r ro=>∃ a b,r=.t [.i .u64 a,.i .u64 b]∧ro=[]∧a=0∧b=x*y):=by
 have hp:0≤x*y:=Int.mul_nonneg hx.1 hy.1
 refine fn_ok rfl rfl fun B D G hG q hq=>?_
 cbv
 subst hG
 have e1:=andm hx
 have e2:=andm hy
 have e3:=shr32 hx
 have e4:=shr32 hy
 have e5:arS .mul .u64 x y=x*y:=fwu ⟨hp,by omega⟩
 have e6:=shr32 ⟨hp,hxy⟩
 have z1:arS .mul .u64 x 0=0:=by show fwrap .u64 (x*0)=0;rw [Int.mul_zero];rfl
 have z2:arS .mul .u64 0 y=0:=by show fwrap .u64 (0*y)=0;rw [Int.zero_mul];rfl
 have z3:arS .add .u64 0 0=0:=rfl
 have z4:arS .and .u64 0 4294967295=0:=by decide
 have z5:shS .shr .u64 0 32=0:=by decide
 have z6:arS .mul .u64 0 0=0:=rfl
 have nn:(0:Int)≤32:=by decide
 refine ⟨nn,nn,nn,nn,nn,hq _ _ ⟨_,_,rfl,rfl,?_,e5⟩⟩
 show arS .add .u64 (arS .add .u64 (arS .mul .u64 (shS .shr .u64 x 32) (shS .shr .u64 y 32)) (shS .shr .u64 (arS .add .u64 (arS .mul .u64 (shS .shr .u64 x 32) (arS .and .u64 y 4294967295)) (shS .shr .u64 (arS .mul .u64 (arS .and .u64 x 4294967295) (arS .and .u64 y 4294967295)) 32)) 32)) (shS .shr .u64 (arS .add .u64 (arS .and .u64 (arS .add .u64 (arS .mul .u64 (shS .shr .u64 x 32) (arS .and .u64 y 4294967295)) (shS .shr .u64 (arS .mul .u64 (arS .and .u64 x 4294967295) (arS .and .u64 y 4294967295)) 32)) 4294967295) (arS .mul .u64 (arS .and .u64 x 4294967295) (shS .shr .u64 y 32))) 32)=0
 simp only [e1,e2,e3,e4,e5,e6,z1,z2,z3,z4,z5,z6]
theorem mul_ok (x y:Int) (hx:0≤x∧x<2^32) (hy:0≤y∧y<2^32) (hxy:x*y<2^32):FvC CX TB (.f 166 [] []) [.i .u64 x,.i .u64 y] [] (fun r ro=>∃ a b,r=.t [.i .u64 a,.i .u64 b]∧ro=[]∧a=0∧b=x*y):=by
 refine fn_ok rfl rfl fun B D G hG q hq=>?_
 cbv
 refine call hG [] (mul64_ok x y hx hy hxy) ⟨rfl,rfl,rfl⟩ ?_
 rintro _ _ ⟨a,b,rfl,rfl,ha,hb⟩
 cbv
 exact hq _ _ ⟨_,_,rfl,rfl,ha,hb⟩
def repL (l:List Int) (c:Nat):List Int:=(List.range (l.length*c)).map fun i=>gu l (i % l.length:Nat)
theorem cpS_get {L ms:List Int} {n:Nat} (h:n+ms.length≤L.length) (i:Nat):gu (cpS L n ms) i=if n≤i∧i<n+ms.length then gu ms (i-n:Nat) else gu L i:=by
 unfold gu cpS
 simp only [Int.toNat_natCast]
 have hn:(L.take n).length=n:=by rw [List.length_take];omega
 by_cases h1:i<n
 ·rw [List.getElem?_append_left (by omega),List.getElem?_take,if_pos h1,if_neg (by omega)]
 ·rw [List.getElem?_append_right (by omega),hn]
  by_cases h2:i<n+ms.length
  ·rw [List.getElem?_append_left (by omega),if_pos ⟨by omega,h2⟩]
  ·rw [List.getElem?_append_right (by omega),List.getElem?_drop,if_neg (by omega),show n+ms.length+(i-n-ms.length)=i by omega]
theorem cpS_len {L ms:List Int} {n:Nat} (h:n+ms.length≤L.length):(cpS L n ms).length=L.length:=by
 simp only [cpS,List.length_append,List.length_take,List.length_drop,Int.toNat_natCast];omega
theorem gu_take {L:List Int} {k i:Nat} (h:i<k):gu (L.take k) i=gu L i:=by
 unfold gu
 rw [Int.toNat_natCast,List.getElem?_take,if_pos h]
theorem repL_len (l:List Int) (c:Nat):(repL l c).length=l.length*c:=by simp [repL]
theorem repL_get {l:List Int} {c i:Nat} (h:i<l.length*c):gu (repL l c) i=gu l (i % l.length:Nat):=by
 unfold gu repL
 rw [Int.toNat_natCast,List.getElem?_map,List.getElem?_range h]
 rfl
theorem repeat_ok (l:List Int) (c:Int) (hl:l.length<2^15) (hc:0≤c∧c<2^15):FvC CX TB (.f 108 [] []) [.u l,.i .i64 c] [] (RU (repL l c.toNat)):=by
 obtain ⟨c0,hc0,hcl⟩:∃ n:Nat,c=(n:Int)∧n<2^15:=⟨c.toNat,by omega,by omega⟩
 have hT:l.length*c0<2^30:=Nat.lt_of_le_of_lt (Nat.mul_le_mul (Nat.le_of_lt_succ (show l.length<2^15-1+1 by omega)) (Nat.le_of_lt_succ (show c0<2^15-1+1 by omega))) (by decide)
 refine fn_ok rfl rfl fun B D G hG q hq=>?_
 cbv
 refine SX.ite hG (fun h1=>?_) (fun h1=>?_)
 ·exfalso
  rw [hG] at h1
  have h2:c<0:=of_decide_eq_true h1
  omega
 have u1:G.cv .u64 (G.lu l)=(l.length:Int):=by subst hG;show fwrap .u64 (l.length:Int)=_;exact fwu (by omega)
 have u2:G.cv .u64 c=c:=by subst hG;show fwrap .u64 c=_;exact fwu (by omega)
 have hb:(l.length:Int)*c=((l.length*c0:Nat):Int):=by rw [hc0,Int.natCast_mul]
 refine call hG [] (mul_ok (G.cv .u64 (G.lu l)) (G.cv .u64 c) (by rw [u1];omega) (by rw [u2];omega) (by rw [u1,u2,hb];omega)) ⟨rfl,rfl,rfl⟩ ?_
 rintro _ _ ⟨a,b,rfl,rfl,ha,hb2⟩
 cbv
 rw [u1,u2,hb] at hb2
 have hcv:G.cv .i64 b=((l.length*c0:Nat):Int):=by
  have h0:((l.length*c0:Nat):Int)<2^62:=by omega
  subst hG hb2
  exact fwi (x:=((l.length*c0:Nat):Int)) ⟨by omega,h0⟩
 refine SX.ite hG (fun h2=>?_) (fun h2=>?_)
 ·exfalso
  rw [ha,hG] at h2
  cases h2
 refine SX.ite hG (fun h3=>?_) (fun h3=>?_)
 ·exfalso
  rw [hb2,hG] at h3
  have:=of_decide_eq_true h3
  have h4:((l.length*c0:Nat):Int) > 9223372036854775807:=this
  omega
 have hmk:G.mk0 (G.cv .i64 b):=by rw [hcv,hG];exact ⟨Int.natCast_nonneg _,by omega⟩
 refine ⟨hmk,?_⟩
 have q1:G.ru (G.cv .i64 b)=List.replicate (l.length*c0) 0:=by rw [hcv,hG];rfl
 have q2:G.mn (G.lu l) (G.lu (G.ru (G.cv .i64 b)))=((Nat.min l.length (l.length*c0):Nat):Int):=by
  rw [q1,hG]
  show AL.mn (l.length:Int) ((List.replicate (l.length*c0) (0:Int)).length:Int)=_
  rw [List.length_replicate];exact mn_nat _ _
 have q3:G.cp (G.ru (G.cv .i64 b)) 0 (G.tu l (G.mn (G.lu l) (G.lu (G.ru (G.cv .i64 b)))))=cpS (List.replicate (l.length*c0) 0) ((0:Nat):Int) (l.take (Nat.min l.length (l.length*c0))):=by
  rw [q2,q1,hG];rfl
 have hmin:Nat.min l.length (l.length*c0)=if c0=0 then 0 else l.length:=by
  show min l.length (l.length*c0)=_
  split
  ·rename_i e;subst e;simp
  ·rename_i e;exact Nat.min_eq_left (Nat.le_mul_of_pos_right _ (Nat.pos_of_ne_zero e))
 have hml:Nat.min l.length (l.length*c0)≤l.length∧Nat.min l.length (l.length*c0)≤l.length*c0:=⟨Nat.min_le_left _ _,Nat.min_le_right _ _⟩
 have htl:(l.take (Nat.min l.length (l.length*c0))).length=Nat.min l.length (l.length*c0):=by rw [List.length_take];omega
 refine lp hG (α:=Int×List Int) (fun p=>∃ n:Nat,p.1=(n:Int)∧n≤l.length*c0∧p.2.length=l.length*c0∧(n % l.length=0∨n=l.length*c0)∧(∀ i:Nat,i<n→gu p.2 i=gu l (i % l.length:Nat))∧(0<l.length*c0→0<n)) (fun p=>l.length*c0-p.1.toNat) (fun s p=>(s.put (some 8) (.i .i64 p.1)).setO 0 (.u p.2)) (G.mn (G.lu l) (G.lu (G.ru (G.cv .i64 b))),G.cp (G.ru (G.cv .i64 b)) 0 (G.tu l (G.mn (G.lu l) (G.lu (G.ru (G.cv .i64 b)))))) ?_ (by constructor<;>cbv<;>simp) ?_
 ·refine ⟨Nat.min l.length (l.length*c0),q2,hml.2,?_,?_,?_,?_⟩
  ·show (G.cp _ _ _).length=_
   rw [q3,cpS_len (by rw [htl,List.length_replicate];omega),List.length_replicate]
  ·rw [hmin];split
   ·exact .inl (Nat.zero_mod _)
   ·exact .inl (Nat.mod_self _)
  ·intro i hi
   show gu (G.cp _ _ _) i=_
   rw [q3,cpS_get (by rw [htl,List.length_replicate];omega),if_pos (by rw [htl];omega),Nat.sub_zero,gu_take hi,Nat.mod_eq_of_lt (by omega)]
  ·intro h
   rw [hmin]
   have h1:c0≠0:=fun e=>by subst e;simp at h
   have h2:l.length≠0:=fun e=>by rw [e] at h;simp at h
   rw [if_neg h1];omega
 rintro ⟨j,L⟩ ⟨n,hj,hn,hL,hd,hi,hp⟩
 have hj:j=(n:Int):=hj
 have hL:L.length=l.length*c0:=hL
 have hi:∀ i:Nat,i<n→gu L i=gu l (i % l.length:Nat):=hi
 cbv
 have hj:j=(n:Int):=hj
 refine SX.ite hG (fun h4=>?_) (fun h4=>?_)
 ·have h4:n<l.length*c0:=by
   rw [hG] at h4
   have:=of_decide_eq_true h4
   have h5:j<(L.length:Int):=this
   omega
  have r1:G.tu (G.du L 0) j=L.take n:=by rw [hG,hj];rfl
  have r2:G.sb (G.lu L) j=((l.length*c0-n:Nat):Int):=by rw [hG,hj];show (L.length:Int)-(n:Int)=_;omega
  have htn:(L.take n).length=n:=by rw [List.length_take];omega
  have r3:G.mn (G.lu (G.tu (G.du L 0) j)) (G.sb (G.lu L) j)=((Nat.min n (l.length*c0-n):Nat):Int):=by
   rw [r1,r2,hG]
   show AL.mn ((L.take n).length:Int) ((l.length*c0-n:Nat):Int)=_
   rw [htn];exact mn_nat _ _
  have hm:Nat.min n (l.length*c0-n)≤n∧Nat.min n (l.length*c0-n)≤l.length*c0-n:=⟨Nat.min_le_left _ _,Nat.min_le_right _ _⟩
  have hm0:0<Nat.min n (l.length*c0-n):=Nat.lt_min.2 ⟨hp (by omega),by omega⟩
  have htt:((L.take n).take (Nat.min n (l.length*c0-n))).length=Nat.min n (l.length*c0-n):=by rw [List.length_take,htn];omega
  have r4:G.cp L j (G.tu (G.tu (G.du L 0) j) (G.mn (G.lu (G.tu (G.du L 0) j)) (G.sb (G.lu L) j)))=cpS L n ((L.take n).take (Nat.min n (l.length*c0-n))):=by
   rw [r3,r1,hG,hj];rfl
  have r5:G.ar .add .i64 j (G.mn (G.lu (G.tu (G.du L 0) j)) (G.sb (G.lu L) j))=((n+Nat.min n (l.length*c0-n):Nat):Int):=by
   rw [r3,hj,addi hG (by omega)];omega
  have v1:G.le j (G.lu L):=by rw [hG,hj];show 0≤(n:Int)∧(n:Int)≤(L.length:Int);omega
  refine ⟨v1,v1,okd hG rfl ?_⟩
  refine ⟨(G.ar .add .i64 j (G.mn (G.lu (G.tu (G.du L 0) j)) (G.sb (G.lu L) j)),G.cp L j (G.tu (G.tu (G.du L 0) j) (G.mn (G.lu (G.tu (G.du L 0) j)) (G.sb (G.lu L) j)))),⟨n+Nat.min n (l.length*c0-n),r5,by omega,?_,?_,?_,?_⟩,?_,by constructor<;>cbv<;>simp⟩
  ·show (G.cp _ _ _).length=_
   rw [r4,cpS_len (by rw [htt];omega),hL]
  ·by_cases hc:n≤l.length*c0-n
   ·have:Nat.min n (l.length*c0-n)=n:=Nat.min_eq_left hc
    rw [this]
    rcases hd with hd | hd
    ·exact .inl (by rw [Nat.add_mod,hd];exact Nat.zero_mod _)
    ·omega
   ·have:Nat.min n (l.length*c0-n)=l.length*c0-n:=Nat.min_eq_right (by omega)
    rw [this]
    exact .inr (by omega)
  ·intro i hlt
   show gu (G.cp _ _ _) i=_
   rw [r4,cpS_get (by rw [htt];omega),htt]
   by_cases hni:n≤i
   ·rw [if_pos ⟨hni,hlt⟩,gu_take (by omega),gu_take (by omega),hi _ (by omega)]
    rcases hd with hd | hd
    ·have:(i-n) % l.length=i % l.length:=by
      obtain ⟨k,hk⟩:=Nat.dvd_of_mod_eq_zero hd
      rw [hk,Nat.sub_mul_mod]
      rw [←hk];exact hni
     rw [this]
    ·omega
   ·rw [if_neg (by omega)];exact hi i (by omega)
  ·intro _;omega
  ·show l.length*c0-(G.ar _ _ _ _).toNat<l.length*c0-j.toNat
   rw [r5,hj,Int.toNat_natCast,Int.toNat_natCast];omega
 ·have h4:l.length*c0≤n:=by
   rw [hG] at h4
   have:=of_decide_eq_false h4
   have h5:¬ j<(L.length:Int):=this
   omega
  refine hq _ _ ⟨_,rfl,rfl,?_⟩
  refine gu_ext (by rw [hL,repL_len,hc0];rfl) fun i hlt=>?_
  rw [hi i (by omega),repL_get (by rw [hc0];show i<l.length*c0;omega)]
end Go.Proofs.YtdgbdkfoeaollaaGreatDoor.V
end
section
set_option linter.unusedSimpArgs false
set_option linter.unusedVariables false
namespace Go.Proofs.YtdgbdkfoeaollaaGreatDoor.V
open Go Go.AL Go.SX
theorem repL_one (b:Int) (n:Nat):repL [b] n=List.replicate n b:=by
 refine gu_ext (by simp [repL]) fun i hi=>?_
 have hi':i<n:=by simpa [repL] using hi
 rw [repL_get (by simpa using hi')]
 unfold gu
 simp [Nat.mod_one,hi']
theorem fill_ok (b w:Int) (s:Bool) (hw:0≤w∧w<2^15):FvC CX TB (.f 105 [] []) [.i .u8 b,.i .i64 w,.b s] [] (RV (List.replicate w.toNat b) s):=by
 refine fn_ok rfl rfl fun B D G hG q hq=>?_
 cbv
 refine call hG [] (repeat_ok [b] w (by simp) hw) ⟨rfl,rfl,rfl⟩ ?_
 rintro _ _ ⟨L,rfl,rfl,hL⟩
 cbv
 exact hq _ _ ⟨_,_,rfl,rfl,by rw [hL,repL_one],rfl⟩
def nB (l:List Int):List Int:=if chk l=0 then l else [2]
def nS (l:List Int) (s:Bool):Bool:=if chk l=0 then s else false
theorem norm_ok (l:List Int) (s:Bool) (hl:l.length<2^15):FvC CX TB (.f 96 [] []) [.a [.u l,.b s]] [] (RV (nB l) (nS l s)):=by
 refine fn_ok rfl rfl fun B D G hG q hq=>?_
 cbv
 refine call hG [] (check_ok l s) ⟨rfl,rfl,rfl⟩ ?_
 rintro _ _ ⟨e,rfl,rfl,he⟩
 cbv
 refine SX.ite hG (fun h1=>?_) (fun h1=>?_)
 ·have h1:¬ e=0:=by simpa [hG,std,cmpS,arS,beqS] using h1
  refine call hG [] (fill_ok _ _ _ (by constructor<;>decide)) ⟨rfl,rfl,rfl⟩ ?_
  rintro _ _ ⟨L,t,rfl,rfl,hL,ht⟩
  cbv
  exact hq _ _ ⟨_,_,rfl,rfl,by rw [hL,nB,if_neg (by rw [←he];exact h1)];rfl,by rw [ht,nS,if_neg (by rw [←he];exact h1)]⟩
 ·have h1:e=0:=by simpa [hG,std,cmpS,arS,beqS] using h1
  have hne:l≠[]:=fun h=>by rw [h] at he;rw [he] at h1;revert h1;decide
  refine call hG [] (clone_ok l hne (by omega)) ⟨rfl,rfl,rfl⟩ ?_
  rintro _ _ ⟨L,rfl,rfl,hL⟩
  cbv
  refine okd hG rfl (hq _ _ ⟨_,_,rfl,rfl,by rw [hL,nB,if_pos (by rw [←he];exact h1)],by rw [nS,if_pos (by rw [←he];exact h1)]⟩)
def okW (n:Int):Bool:=decide (1≤n)&&decide (n≤128)
theorem width_ok (n:Int):FvC CX TB (.f 102 [] []) [.i .i64 n] [] (RB (okW n)):=by
 refine fn_ok rfl rfl fun B D G hG q hq=>?_
 cbv
 refine SX.ite hG (fun h1=>?_) (fun h1=>?_)
 ·exact hq _ _ ⟨_,rfl,rfl,by rw [hG] at h1 ⊢;have h1:decide (n≥1)=true:=h1;show decide (n≤128)=_;simp at h1;simp [okW,h1]⟩
 ·exact hq _ _ ⟨_,rfl,rfl,by rw [hG] at h1;have h1:decide (n≥1)=false:=h1;simp at h1;symm;simp [okW];intro h;omega⟩
def kn (l:List Int):Bool:=l.all bKn
def boolL (l:List Int):List Bool:=l.map fun x=>x == 1
theorem gu_set {L:List Int} {n:Nat} {b:Int} (h:n<L.length) (i:Nat):gu (L.set n b) i=if i=n then b else gu L i:=by
 unfold gu
 rw [Int.toNat_natCast]
 by_cases e:i=n
 ·subst e;rw [List.getElem?_set_self h,if_pos rfl];rfl
 ·rw [List.getElem?_set_ne (Ne.symm e),if_neg e]
theorem gu_map {l:List Int} {f:Int→Int} {i:Nat} (h:i<l.length):gu (l.map f) i=f (gu l i):=by
 unfold gu
 rw [Int.toNat_natCast,List.getElem?_map,List.getElem?_eq_getElem h];rfl
end Go.Proofs.YtdgbdkfoeaollaaGreatDoor.V
end
section
set_option linter.unusedSimpArgs false
set_option linter.unusedVariables false
namespace Go.Proofs.YtdgbdkfoeaollaaGreatDoor.V
open Go Go.AL Go.SX
def intL (l:List Bool):List Int:=l.map ofB
theorem gu_mapB {l:List Bool} {f:Bool→Int} {i:Nat} (h:i<l.length):gu (l.map f) i=f (gb l i):=by
 unfold gb gu
 rw [Int.toNat_natCast,List.getElem?_map,List.getElem?_eq_getElem h];rfl
theorem vector_ok (l:List Bool) (s:Bool) (hl:l.length<2^20):FvC CX TB (.f 104 [] []) [.bl l,.b s] [] (RV (intL l) s):=by
 refine fn_ok rfl rfl fun B D G hG q hq=>?_
 cbv
 have hmk:G.mk0 (G.lb l):=by rw [hG];show 0≤(l.length:Int)∧(l.length:Int)≤2^40;omega
 refine ⟨hmk,?_⟩
 refine lp hG (α:=Int×List Int) (fun p=>∃ n:Nat,p.1=(n:Int)∧n≤l.length∧p.2.length=l.length∧∀ i:Nat,i<n→gu p.2 i=ofB (gb l i)) (fun p=>l.length-p.1.toNat) (fun s p=>(s.put (some 15) (.i .i64 p.1)).setO 1 (.u p.2)) (0,G.ru (G.lb l)) ⟨0,rfl,Nat.zero_le _,by rw [hG];show (List.replicate ((l.length:Int)).toNat (0:Int)).length=l.length;simp,by simp⟩ (by constructor<;>cbv<;>simp) ?_
 rintro ⟨j,L⟩ ⟨n,hj,hn,hL,hi⟩
 have hL:L.length=l.length:=hL
 cbv
 have hj:j=(n:Int):=hj
 have hi:∀ i:Nat,i<n→gu L i=ofB (gb l i):=hi
 refine SX.ite hG (fun h3=>?_) (fun h3=>?_)
 ·have h3:n<l.length:=by simpa [hG,std,cmpS,arS,beqS,hj] using h3
  have v1:G.ix j (G.lb l):=by rw [hG,hj];show 0≤(n:Int)∧(n:Int)<(l.length:Int);omega
  have v2:G.ix j (G.lu L):=by rw [hG,hj];show 0≤(n:Int)∧(n:Int)<(L.length:Int);omega
  refine ⟨v1,?_⟩
  have hgb:G.gb l j=gb l n:=by rw [hG,hj];rfl
  refine call hG [] (ofB_ok (G.gb l j)) ⟨rfl,rfl,rfl⟩ ?_
  rintro _ _ ⟨c,rfl,rfl,hc⟩
  cbv
  rw [hgb] at hc
  have hj:j=(n:Int):=hj
  have hnx:G.su L j c=L.set n (ofB (gb l n)):=by rw [hc,hG,hj];rfl
  refine ⟨v2,v2,okd hG rfl ?_⟩
  have hi2:∀ i:Nat,i<n+1→gu (G.su L j c) i=ofB (gb l i):=fun i hlt=>by
   rw [hnx,gu_set (by omega)]
   split
   ·rename_i e;rw [e]
   ·exact hi i (by omega)
  exact ⟨(G.ar .add .i64 j (Int.ofNat 1),G.su L j c),⟨n+1,inc hG hj (by omega),h3,by show (G.su _ _ _).length=_;rw [hnx];simp [hL],hi2⟩,mu hj (inc hG hj (by omega)) h3,by constructor<;>cbv<;>simp⟩
 ·have h3:l.length≤n:=by simpa [hG,std,cmpS,arS,beqS,hj] using h3
  refine hq _ _ ⟨_,_,rfl,rfl,gu_ext (by rw [hL];simp [intL]) fun i hlt=>?_,rfl⟩
  rw [hi i (by omega),intL,gu_mapB (by omega)]
theorem gu_drop {l:List Int} (k i:Nat):gu (l.drop k) i=gu l (k+i:Nat):=by
 unfold gu
 rw [Int.toNat_natCast,Int.toNat_natCast,List.getElem?_drop]
structure NV (l:List Int):Prop where
 ne:l≠[]
 len:l.length≤128
 v:∀ x∈l,V4 x
theorem chk_zero {l:List Int} (h:chk l=0):l≠[]∧l.length≤128∧∀ x∈l,x≤3:=by
 unfold chk at h
 split at h
 ·cases h
 ·rename_i h1
  split at h
  ·cases h
  ·rename_i h2
   split at h
   ·rename_i h3
    refine ⟨fun e=>h1 (by rw [e];rfl),by omega,fun x hx=>?_⟩
    simpa using List.all_eq_true.1 h3 x hx
   ·cases h
theorem nB_nv {l:List Int} (h:∀ x∈l,0≤x):NV (nB l):=by
 unfold nB
 split
 ·rename_i hc
  obtain ⟨h1,h2,h3⟩:=chk_zero hc
  exact ⟨h1,h2,fun x hx=>⟨h x hx,h3 x hx⟩⟩
 ·exact ⟨by simp,by simp,fun x hx=>by simp at hx;subst hx;constructor<;>decide⟩
def Byt (l:List Int):Prop:=∀ x∈l,0≤x
end Go.Proofs.YtdgbdkfoeaollaaGreatDoor.V
end
section
set_option linter.unusedSimpArgs false
set_option linter.unusedVariables false
namespace Go.Proofs.YtdgbdkfoeaollaaGreatDoor.V
open Go Go.AL Go.SX
def top (l:List Int) (s:Bool):Int:=if s then gu l (l.length-1:Nat) else 0
def rsz (l:List Int) (s:Bool) (w:Nat):List Int:=if w≤l.length then l.take w else l++List.replicate (w-l.length) (top l s)
theorem rsz_len {l:List Int} {s:Bool} {w:Nat}:(rsz l s w).length=w:=by
 unfold rsz;split<;>simp<;>omega
theorem top_4 {l:List Int} (h:NV l) (s:Bool):V4 (top l s):=by
 unfold top
 split
 ·exact h.v _ (gu_mem (by have:=List.length_pos_iff.2 h.ne;omega))
 ·constructor<;>decide
theorem rsz_nv {l:List Int} {s:Bool} {w:Nat} (h:NV l) (h1:1≤w) (h2:w≤128):NV (rsz l s w):=by
 refine ⟨fun e=>?_,by rw [rsz_len];exact h2,fun x hx=>?_⟩
 ·have:=congrArg List.length e
  rw [rsz_len] at this;simp at this;omega
 ·unfold rsz at hx
  split at hx
  ·exact h.v x (List.mem_of_mem_take hx)
  ·rcases List.mem_append.1 hx with hx | hx
   ·exact h.v x hx
   ·rw [(List.mem_replicate.1 hx).2];exact top_4 h s
def tailR:IC:=(.seq (.region true [⟨(some 29),none,(.fieldAddr 0 (.tmp 2))⟩,⟨(some 30),none,(.load none (.tmp 29))⟩,⟨(some 31),none,(.mov (.tmp 6))⟩,⟨(some 32),none,(.buildSlice [(.int .u8 0)] 1 [(0,(1,(.tmp 31)))])⟩,⟨(some 33),none,(.mov (.tmp 1))⟩,⟨(some 34),none,(.mov (.tmp 5))⟩,⟨(some 35),none,(.bin 0 .sub (.tmp 33) (.tmp 34))⟩,⟨(some 36),none,(.call (.func 108) [(.tmp 32),(.tmp 35)])⟩,⟨(some 37),none,(.append 1 1 (.tmp 30) (.tmp 36))⟩,⟨(some 38),none,(.fieldAddr 1 (.tmp 2))⟩,⟨(some 39),none,(.load none (.tmp 38))⟩,⟨(some 40),none,(.build [(.slice none 0 0),(.bool false)] [(0,(1,(.tmp 37))),(1,(1,(.tmp 39)))])⟩,⟨none,none,(.store 2 (.tmp 4) (.tmp 40))⟩] [0,1,0,4,0,0,48,124,255,0,512,2047,4095]) .ret)
def stR (l:List Int) (sg:Bool) (w n x:Int):St:=⟨((((T.nil.set 1 (SV.i .i64 w)).set 2 (.o 1 0)).set 4 (.o 2 0)).set 5 (.i .i64 n)).set 6 (.i .u8 x),[.u l,.x [.s 0,.b sg],.x [.nil,.kb false]]⟩
theorem fl_cons2 {a c:Bool×Bool} {xs ys:List (Bool×Bool)} (h:FlLe xs ys):FlLe (a::c::xs) (a::c::ys):=⟨⟨rfl,fun h=>h⟩,⟨rfl,fun h=>h⟩,h⟩
def tailOps:List IOper:=[⟨(some 31),none,(.mov (.tmp 6))⟩,⟨(some 32),none,(.buildSlice [(.int .u8 0)] 1 [(0,(1,(.tmp 31)))])⟩,⟨(some 33),none,(.mov (.tmp 1))⟩,⟨(some 34),none,(.mov (.tmp 5))⟩,⟨(some 35),none,(.bin 0 .sub (.tmp 33) (.tmp 34))⟩,⟨(some 36),none,(.call (.func 108) [(.tmp 32),(.tmp 35)])⟩,⟨(some 37),none,(.append 1 1 (.tmp 30) (.tmp 36))⟩,⟨(some 38),none,(.fieldAddr 1 (.tmp 2))⟩,⟨(some 39),none,(.load none (.tmp 38))⟩,⟨(some 40),none,(.build [(.slice none 0 0),(.bool false)] [(0,(1,(.tmp 37))),(1,(1,(.tmp 39)))])⟩,⟨none,none,(.store 2 (.tmp 4) (.tmp 40))⟩]
def tailK (q:SV→List SX.Obj→Prop):St→List (Bool×Bool)→Prop:=fun s' fl=>(s'.env.get 38=some (.o 1 1)∧s'.env.get 4=some (.o 2 0)∧fl=[(false,false),(true,false),(false,false),(false,false),(false,false),(true,false),(true,true),(false,false),(true,false),(false,false),(true,true)])∧post [.cell 4 (some 2)] q .ret s'
theorem tail_wo {B:AH} {D:Bs} {G:Sg} (hG:G=std CX TB B D) (l:List Int) (sg:Bool) (w n x:Int) (hn:n=(l.length:Int)) (hl:l.length<2^14) (hw:n<w∧w<2^14) (q:SV→List SX.Obj→Prop)
  (hq:∀ L,L=l++List.replicate (w.toNat-l.length) x→q (.a [.s 0,.b sg]) [.u L]):WO G TB tailOps (((stR l sg w n x).put (some 29) (SV.o 1 0)).put (some 30) (SV.s 0)) [] (tailK q):=by
 have hb:-(2^62)≤w-n∧w-n<2^62:=by omega
 have hc:0≤w-n∧w-n<2^15:=by omega
 have he:(w-n).toNat=w.toNat-l.length:=by omega
 clear hn
 cbv
 refine call hG [] (repeat_ok [x] (G.ar .sub .i64 w n) (by simp) (by rw [subi hG hb];exact hc)) ⟨rfl,rfl,rfl⟩ ?_
 rintro _ _ ⟨L,rfl,rfl,hL⟩
 cbv
 have eL:L=List.replicate (w.toNat-l.length) x:=by
  rw [hL,subi hG hb,he]
  refine gu_ext (by rw [repL_len];simp) fun i hi=>?_
  rw [repL_len] at hi
  rw [repL_get hi]
  simp only [List.length_cons,List.length_nil,Nat.zero_add,Nat.mod_one,Nat.one_mul] at hi ⊢
  unfold gu
  simp only [Int.toNat_natCast]
  rw [List.getElem?_replicate,if_pos (by omega)]
  rfl
 have hq2:=hq _ (congrArg (l ++ ·) eL)
 have hlen:L.length<2^14:=by rw [eL,List.length_replicate];omega
 subst hG
 refine ⟨?_,hq2⟩
 simp only [std]
 omega
theorem resize_tail {B:AH} {d:Nat→Prop} (m0:List Value) (h0:m0.length=3) (l:List Int) (sg:Bool) (w n x:Int) (hne:l≠[]) (hn:n=(l.length:Int)) (hl:l.length<2^14) (hw:n<w∧w<2^14) (q:SV→List SX.Obj→Prop)
  (hq:∀ L,L=l++List.replicate (w.toNat-l.length) x→q (.a [.s 0,.b sg]) [.u L]):SWs CX TB B ⟨d,boxM m0 [.u l,.x [.s 0,.b sg],.x [.nil,.kb false]]⟩ tailR (stR l sg w n x) (post [.cell 4 (some 2)] q):=by
 intro m E H hs
 obtain ⟨p1,e1,id1,k1,rfl⟩:=hs.env 2 (.o 1 0) rfl
 obtain ⟨p2,e2,id2,k2,rfl⟩:=hs.env 4 (.o 2 0) rfl
 obtain ⟨v0,k0⟩:∃ v,m[0]?=some v:=⟨m[0]'(by rw [hs.obs.len];exact (by decide:0<3)),List.getElem?_eq_getElem _⟩
 have o0:=hs.obs.ok 0 (.u l) v0 rfl k0
 obtain ⟨i0,c0,kd0,rfl,-,b0,g0⟩:∃ id c kd,v0=.slice (some ⟨id,0,none⟩) (intV l).length c∧((c=UC∧kd=3)∨(c=(intV l).length∧kd=0))∧id<H.n∧H.t.get id=some ⟨intV l,kd⟩:=by
  rcases o0 with ⟨rfl,h⟩ | h
  ·exfalso;cases l with
   | nil=>exact hne rfl
   | cons a l=>simp [intV] at h
  ·exact h
 obtain ⟨id1',vs1,hv1,b1,g1,w0,ws1,rfl,hw0,wb,ws2,rfl,hwb,rfl⟩:=hs.obs.ok 1 (.x [.s 0,.b sg]) _ rfl k1
 cases hv1
 obtain ⟨hw0,-⟩:=hw0
 rw [k0] at hw0;cases hw0
 obtain ⟨id2',vs2,hv2,b2,-⟩:=hs.obs.ok 2 (.x [.nil,.kb false]) _ rfl k2
 cases hv2
 have n01:i0≠id1:=fun e=>by
  subst e
  exact absurd (hs.obs.dis 0 1 _ _ _ _ i0 rfl (by intro h;cases h) rfl (by intro h;cases h) k0 k1 rfl rfl) (by decide)
 have n12:id2≠id1:=fun e=>by
  subst e
  exact absurd (hs.obs.dis 2 1 _ _ _ _ id2 rfl (by intro h;cases h) rfl (by intro h;cases h) k2 k1 rfl rfl) (by decide)
 have f1:m0[1]?=some (.pointer (some ⟨id1,0,none⟩)):=by
  obtain ⟨v,hv⟩:∃ v,m0[1]?=some v:=⟨m0[1]'(by omega),List.getElem?_eq_getElem _⟩
  have:=(hs.fix 1 v (by simpa [boxM] using hv)).1
  rw [k1] at this;cases this;exact hv
 have f2:m0[2]?=some (.pointer (some ⟨id2,0,none⟩)):=by
  obtain ⟨v,hv⟩:∃ v,m0[2]?=some v:=⟨m0[2]'(by omega),List.getElem?_eq_getElem _⟩
  have:=(hs.fix 2 v (by simpa [boxM] using hv)).1
  rw [k2] at this;cases this;exact hv
 have hs1:=hs.rebase
 refine Cw.seq (Cw.region3 ?_)
 refine Ow.pop (v:=.pointer (some ⟨id1,0,none⟩)) rfl rfl (by simp only [AL.pop,ev,e1];rfl) ?_
 have hs2:=hs1.put (d:=some 29) (x:=.o 1 0) (w:=.pointer (some ⟨id1,0,none⟩)) ⟨id1,k1,rfl⟩
 refine Ow.hop (v:=.slice (some ⟨i0,0,none⟩) (intV l).length c0) (H1:={ H with wl:=H.n }) rfl rfl rfl (by simp [AL.hop,ev,AL.put,T.get_set,g1,AL.part]) ?_
 have hs3:=hs2.put (d:=some 30) (x:=.s 0) (w:=.slice (some ⟨i0,0,none⟩) (intV l).length c0) ⟨k0,_,_,_,rfl⟩
 have key:=Ow.len (Ow.unset (t:=30) rfl (WO_ok (fl:=[]) (os:=tailOps) (K:=tailK q) (tail_wo rfl l sg w n x hn hl hw q hq) hs3))
 refine key.mono ?_
 rintro E' H' fl ⟨⟨⟨s',m',f,⟨⟨q38,q4,hf⟩,hp⟩,hle,hs'⟩,q30⟩,hlen⟩
 subst hf
 obtain ⟨p38,e38,i38,k38,rfl⟩:=hs'.env 38 (.o 1 1) q38
 obtain ⟨p4,e4,i4,k4,rfl⟩:=hs'.env 4 (.o 2 0) q4
 have g1':=(hs'.fix 1 (.pointer (some ⟨id1,0,none⟩)) (by simpa [boxM] using f1)).1
 rw [k38] at g1';cases g1'
 have g2':=(hs'.fix 2 (.pointer (some ⟨id2,0,none⟩)) (by simpa [boxM] using f2)).1
 rw [k4] at g2';cases g2'
 have q30':T.get E' 30=some (.slice (some ⟨i0,0,none⟩) (intV l).length c0):=by
  rw [q30];show (T.set _ 30 _).get 30=_;rw [T.get_set,if_pos rfl]
 refine ⟨mark2_ok 10 (by simp [hlen];rfl) (fl_cons2 hle) ?_ (by decide),fun y hy=>?_⟩
 ·simp only [tailOps,List.drop_succ_cons,List.drop_zero,markC,Bool.and_eq_true]
  refine ⟨?_,?_⟩
  ·simp only [oldLoad,e38,Bool.and_eq_true]
   exact ⟨Nat.ble_eq_true_of_le b1,by decide⟩
  ·simp only [loadBlk,e38]
   refine missed_ok fun i o os' h1 h2=>?_
   have h3:=((fl_cons2 (a:=(false,false)) (c:=(true,false)) hle).get i).2 h2
   have hi:i=8∨i=12:=by
    by_cases hlt:i<13
    ·clear h1 h2
     revert h3
     have:∀ j:Fin 13,((((false,false)::(true,false)::[(false,false),(true,false),(false,false),(false,false),(false,false),(true,false),(true,true),(false,false),(true,false),(false,false),(true,true)]):List (Bool×Bool)).getD j.val (false,false)).2=true→j.val=8∨j.val=12:=by decide
     exact this ⟨i,hlt⟩
    ·rw [List.getD_eq_getElem?_getD,List.getElem?_eq_none (by simp;omega)] at h3
     cases h3
   rcases hi with rfl | rfl
   ·simp only [tailOps,List.drop_succ_cons,List.drop_zero,List.cons.injEq] at h1
    obtain ⟨rfl,rfl⟩:=h1
    exact .inr ⟨30,i0,by simp only [tgtOf,q30'],n01,by decide⟩
   ·simp only [tailOps,List.drop_succ_cons,List.drop_zero,List.cons.injEq] at h1
    obtain ⟨rfl,rfl⟩:=h1
    exact .inr ⟨4,id2,by simp only [tgtOf,e4],n12,by decide⟩
 ·exact Cw.ret ⟨s',m',hp,hs.back hs' hy⟩
theorem resize_ok (l:List Int) (s:Bool) (w:Int) (hne:l≠[]) (hl:l.length<2^14) (hw:1≤w∧w<2^14):FvC CX TB (.f 106 [] []) [.a [.s 0,.b s],.i .i64 w] [.u l] (RV (rsz l s w.toNat) s):=by
 refine fn_sws rfl rfl fun B d q hq=>?_
 obtain ⟨G0,hG0⟩:∃ G,G=std CX TB B ⟨d,fun _=>none⟩:=⟨_,rfl⟩
 refine sws_seq hG0 fun R hR=>?_
 cbv
 refine hR _ ?_
 clear hR R hG0 G0
 refine sws_fix fun m0 h0=>?_
 obtain ⟨D,hD⟩:∃ D:Bs,D=⟨d,boxM m0 [.u l,.x [.s 0,.b s],.x [.nil,.kb false]]⟩:=⟨_,rfl⟩
 have hq':∀ L,L=rsz l s w.toNat→q (.a [.s 0,.b s]) [.u L]:=fun L hL=>hq _ _ ⟨L,s,rfl,rfl,hL,rfl⟩
 show SWs CX TB B ⟨d,boxM m0 [.u l,.x [.s 0,.b s],.x [.nil,.kb false]]⟩ _ _ _
 rw [←hD]
 obtain ⟨G,hG⟩:∃ G,G=std CX TB B D:=⟨_,rfl⟩
 refine sws_seq hG fun R hR=>?_
 cbv
 refine hR _ ?_
 clear hR R
 refine sws_seq hG fun R hR=>?_
 cbv
 have e1:G.lu l=(l.length:Int):=by subst hG;rfl
 have hcm:∀ b,G.cmp .leq w (G.lu l)=b→decide (w≤(l.length:Int))=b:=fun b hb=>by rw [←hb,e1];subst hG;rfl
 have hs1:G.ar .sub .i64 (G.lu l) 1=((l.length-1:Nat):Int):=by
  have:=List.length_pos_iff.2 hne
  rw [subi hG (by rw [e1];omega),e1];omega
 have i1:G.ix (G.ar .sub .i64 (G.lu l) 1) (G.lu l):=by
  have:=List.length_pos_iff.2 hne
  have h2:(0:Int)≤((l.length-1:Nat):Int)∧((l.length-1:Nat):Int)<(l.length:Int):=by omega
  rw [hs1,e1];subst hG
  exact h2
 refine SX.ite hG (fun h1=>?_) (fun h1=>?_)
 ·have c1:w≤(l.length:Int):=of_decide_eq_true (hcm _ h1)
  have et:G.tu (G.du l 0) w=l.take w.toNat:=by subst hG;simp [std]
  refine ⟨by subst hG;simp only [std];omega,?_⟩
  have c2:w.toNat≤l.length:=by omega
  refine call hG [] (clone_ok (G.tu (G.du l 0) w) (by rw [et];intro e;have:=congrArg List.length e;rw [List.length_take] at this;cases l with | nil=>exact hne rfl | cons a l=>simp at this;omega) (by rw [et,List.length_take];omega)) ⟨rfl,rfl,rfl⟩ ?_
  rintro _ _ ⟨L,rfl,rfl,hL⟩
  cbv
  refine okd hG rfl ?_
  exact hq' _ (by rw [hL,et,rsz,if_pos c2])
 ·have c1:¬ w≤(l.length:Int):=of_decide_eq_false (hcm _ h1)
  have c2:¬ w.toNat≤l.length:=by omega
  have c3:G.lu l<w∧w<2^14:=by rw [e1];omega
  refine hR _ ?_
  clear hR R
  refine sws_seq hG fun R hR=>?_
  cbv
  refine hR _ ?_
  clear hR R
  refine sws_seq hG fun R hR=>?_
  cbv
  refine SX.ite hG (fun h2=>?_) (fun h2=>?_)
  ·refine ⟨i1,i1,?_⟩
   refine hR _ ?_
   refine sws_env (stR l s w (G.lu l) (G.gu l (G.ar .sub .i64 (G.lu l) 1))).env ?_ ?_
   ·cbv<;>simp
   ·subst hD
    refine resize_tail m0 h0 l s w (G.lu l) _ hne e1 hl c3 q fun L hL=>hq' L ?_
    rw [hL,rsz,if_neg c2,top,if_pos h2,hs1]
    subst hG;rfl
  ·refine hR _ ?_
   refine sws_env (stR l s w (G.lu l) 0).env ?_ ?_
   ·cbv<;>simp
   ·subst hD
    refine resize_tail m0 h0 l s w (G.lu l) 0 hne e1 hl c3 q fun L hL=>hq' L ?_
    rw [hL,rsz,if_neg c2,top,if_neg (by rw [h2];decide)]
end Go.Proofs.YtdgbdkfoeaollaaGreatDoor.V
end
section
set_option linter.unusedSimpArgs false
set_option linter.unusedVariables false
namespace Go.Proofs.YtdgbdkfoeaollaaGreatDoor.V
open Go Go.AL Go.SX
def bg (l:List Int) (s:Bool) (m:List Int) (t:Bool):Bool:=nS l s&&nS m t
def bwd (l m:List Int):Nat:=Nat.max (nB l).length (nB m).length
def bX (l:List Int) (s:Bool) (m:List Int) (t:Bool):List Int:=rsz (nB l) (bg l s m t) (bwd l m)
def bY (l:List Int) (s:Bool) (m:List Int) (t:Bool):List Int:=rsz (nB m) (bg l s m t) (bwd l m)
def RP (L M:List Int) (g:Bool) (r:SV) (ro:List SX.Obj):Prop:=∃ L' M' g' h',r=.t [.a [.s 0,.b g'],.a [.s 1,.b h']]∧ro=[.u L',.u M']∧L'=L∧M'=M∧g'=g∧h'=g
theorem nB_any (l:List Int):nB l≠[]∧(nB l).length≤128:=by
 unfold nB
 split
 ·rename_i h
  unfold chk at h
  split at h
  ·cases h
  ·split at h
   ·cases h
   ·rename_i h1 h2
    exact ⟨fun e=>h1 (by rw [e];rfl),by omega⟩
 ·exact ⟨by simp,by simp⟩
theorem bwd_r {l m:List Int} (hl:Byt l) (hm:Byt m):1≤bwd l m∧bwd l m≤128:=by
 have h1:=nB_nv hl
 have h2:=nB_nv hm
 have:=h1.len;have:=h2.len;have:=List.length_pos_iff.2 h1.ne
 unfold bwd
 show 1≤max _ _∧max _ _≤_
 omega
theorem bX_nv {l m:List Int} {s t:Bool} (hl:Byt l) (hm:Byt m):NV (bX l s m t):=rsz_nv (nB_nv hl) (bwd_r hl hm).1 (bwd_r hl hm).2
theorem bY_nv {l m:List Int} {s t:Bool} (hl:Byt l) (hm:Byt m):NV (bY l s m t):=rsz_nv (nB_nv hm) (bwd_r hl hm).1 (bwd_r hl hm).2
theorem bX_len {l m:List Int} {s t:Bool}:(bX l s m t).length=bwd l m:=rsz_len
theorem bY_len {l m:List Int} {s t:Bool}:(bY l s m t).length=bwd l m:=rsz_len
theorem RP.nv {l m:List Int} {s t:Bool} (bl:Byt l) (bm:Byt m):NV (bX l s m t)∧NV (bY l s m t)∧(bX l s m t).length=(bY l s m t).length:=⟨bX_nv bl bm,bY_nv bl bm,by rw [bX_len,bY_len]⟩
end Go.Proofs.YtdgbdkfoeaollaaGreatDoor.V
end
section
set_option linter.unusedSimpArgs false
set_option linter.unusedVariables false
set_option linter.unusedSectionVars false
namespace Go.Proofs.YtdgbdkfoeaollaaGreatDoor.V
open Go Go.AL Go.SX
end Go.Proofs.YtdgbdkfoeaollaaGreatDoor.V
end
section
set_option linter.unusedSimpArgs false
set_option linter.unusedVariables false
namespace Go.Proofs.YtdgbdkfoeaollaaGreatDoor.V
open Go Go.AL Go.SX
end Go.Proofs.YtdgbdkfoeaollaaGreatDoor.V
end
section
set_option linter.unusedSimpArgs false
set_option linter.unusedVariables false
namespace Go.Proofs.YtdgbdkfoeaollaaGreatDoor.V
open Go Go.AL Go.SX
theorem kbr {k:Nat} {args:List SV} {ao:List SX.Obj} {p c:Bool} (h:FvC CX TB (.f k [] []) args ao (RB p)) (e:p=c):FvC CX TB (.f k [] []) args ao (fun r ro=>r=.kb c∧ro=[]):=by
 intro H m vf vs h1 h2 h3 h4
 obtain ⟨k',fs,cs,e',hr⟩:=h H m vf vs h1 h2 h3 h4
 refine ⟨k',fs,cs,e',hr.mono ?_⟩
 rintro v H' ⟨m',r,ro,⟨x,rfl,rfl,hx⟩,q1,q2,q3,q4,q5⟩
 exact ⟨m',.kb c,[],⟨rfl,rfl⟩,q1,q2,by rw [hx,e] at q3;exact q3,q4,q5⟩
def dropC:Nat→IC→IC
 | n+1,.seq _ b=>dropC n b
 | _,c=>c
theorem rsame_ok (l m:List Int) (s t:Bool) (hl:l.length<2^20) (hm:m.length<2^20):FvC CX TB (.f 58 [] []) [.a [.u l,.b s],.a [.u m,.b t]] [] (RB (s == t&&l == m)):=by
 refine fn_ok rfl rfl fun B D G hG q hq=>?_
 cbv
 refine SX.ite hG (fun h1=>?_) (fun h1=>?_)
 ·have h1:decide (s≠t)=true:=by rw [hG] at h1;simpa [std,beqS] using h1
  exact hq _ _ ⟨_,rfl,rfl,by have:=of_decide_eq_true h1;symm;simp [this]⟩
 have h1:s=t:=by rw [hG] at h1;simpa [std,beqS] using h1
 refine SX.ite hG (fun h2=>?_) (fun h2=>?_)
 ·have h2:l.length≠m.length:=by have hq_:=h2;simp [hG,std,cmpS,arS,beqS] at hq_;omega
  exact hq _ _ ⟨_,rfl,rfl,by symm;simp;intro _ e;exact h2 (by rw [e])⟩
 have h2:l.length=m.length:=by have hq_:=h2;simp [hG,std,cmpS,arS,beqS] at hq_;omega
 refine lp hG (α:=Int) (fun j=>∃ n:Nat,j=(n:Int)∧n≤l.length∧∀ i:Nat,i<n→gu l i=gu m i) (fun j=>l.length-j.toNat) (fun s j=>s.put (some 5) (.i .i64 j)) 0 ⟨0,rfl,Nat.zero_le _,by simp⟩ (by constructor<;>cbv<;>simp) ?_
 rintro j ⟨n,hj,hn,hi⟩
 cbv
 refine SX.ite hG (fun h3=>?_) (fun h3=>?_)
 ·have h3:n<l.length:=by simpa [hG,std,cmpS,arS,beqS,hj] using h3
  refine ⟨by simp [hG,std,hj,h3],by simp [hG,std,hj];omega,okd hG rfl ?_⟩
  have hgu:G.gu l j=gu l n∧G.gu m j=gu m n:=by rw [hG,hj];exact ⟨rfl,rfl⟩
  refine SX.ite hG (fun h4=>?_) (fun h4=>?_)
  ·have h4:¬ G.gu l j=G.gu m j:=by simpa [hG,std,cmpS,arS,beqS] using h4
   rw [hgu.1,hgu.2] at h4
   exact hq _ _ ⟨_,rfl,rfl,by symm;simp;intro _ e;exact h4 (by rw [e])⟩
  ·have h4:G.gu l j=G.gu m j:=by simpa [hG,std,cmpS,arS,beqS] using h4
   rw [hgu.1,hgu.2] at h4
   exact ⟨G.ar .add .i64 j (Int.ofNat 1),⟨n+1,inc hG hj (by omega),h3,fun i hlt=>by rcases Nat.lt_succ_iff_lt_or_eq.1 hlt with h | rfl;exact hi i h;exact h4⟩,mu hj (inc hG hj (by omega)) h3,by constructor<;>cbv<;>simp⟩
 ·have h3:l.length≤n:=by simpa [hG,std,cmpS,arS,beqS,hj] using h3
  refine hq _ _ ⟨_,rfl,rfl,?_⟩
  symm
  simp only [Bool.and_eq_true,beq_iff_eq]
  exact ⟨h1,gu_ext h2 fun i hlt=>hi i (by omega)⟩
end Go.Proofs.YtdgbdkfoeaollaaGreatDoor.V
end
section
set_option linter.unusedSimpArgs false
set_option linter.unusedVariables false
namespace Go.Proofs.YtdgbdkfoeaollaaGreatDoor.V
open Go Go.AL Go.SX
theorem rcheck_ok (l:List Int) (s:Bool):FvC CX TB (.f 66 [] []) [.a [.u l,.b s]] [] (RI .i64 (chk l)):=by
 refine fn_ok rfl rfl fun B D G hG q hq=>?_
 cbv
 refine SX.ite hG (fun h1=>?_) (fun h1=>?_)
 ·have h1:l.length=0:=by simpa [hG,std,cmpS,arS,beqS] using h1
  exact hq _ _ ⟨_,rfl,rfl,by simp [chk,h1]⟩
 have h1:l.length≠0:=by simpa [hG,std,cmpS,arS,beqS] using h1
 refine SX.ite hG (fun h2=>?_) (fun h2=>?_)
 ·have h2:128<l.length:=by have hq_:=h2;simp [hG,std,cmpS,arS,beqS] at hq_;omega
  exact hq _ _ ⟨_,rfl,rfl,by rw [chk,if_neg h1,if_pos (by omega)];rfl⟩
 have h2:l.length≤128:=by have hq_:=h2;simp [hG,std,cmpS,arS,beqS] at hq_;omega
 have hchk:chk l=if l.all (fun x=>decide (x≤3)) then 0 else 1:=by rw [chk,if_neg h1,if_neg (by omega)]
 refine lp hG (α:=Int) (fun j=>∃ n:Nat,j=(n:Int)∧n≤l.length∧∀ i:Nat,i<n→gu l i≤3) (fun j=>l.length-j.toNat) (fun s j=>s.put (some 3) (.i .i64 j)) 0 ⟨0,rfl,Nat.zero_le _,by simp⟩ (by constructor<;>cbv<;>simp) ?_
 rintro j ⟨n,hj,hn,hi⟩
 cbv
 refine SX.ite hG (fun h3=>?_) (fun h3=>?_)
 ·have h3:n<l.length:=by simpa [hG,std,cmpS,arS,beqS,hj] using h3
  refine ⟨by simp [hG,std,hj,h3],?_⟩
  have hgu:G.gu l j=gu l n:=by rw [hG,hj];rfl
  refine SX.ite hG (fun h4=>?_) (fun h4=>?_)
  ·refine hq _ _ ⟨_,rfl,rfl,?_⟩
   rw [hchk,if_neg]
   ·rfl
   ·intro ha
    have:=List.all_eq_true.1 ha _ (gu_mem h3)
    have h5:decide (G.gu l j > 3)=true:=by rw [←h4];subst hG;rfl
    simp at this h5
    omega
  ·have h5:decide (G.gu l j > 3)=false:=by rw [←h4];subst hG;rfl
   have h6:gu l n≤3:=by rw [hgu] at h5;exact Int.not_lt.1 (of_decide_eq_false h5)
   exact ⟨G.ar .add .i64 j (Int.ofNat 1),⟨n+1,inc hG hj (by omega),h3,fun i hlt=>by rcases Nat.lt_succ_iff_lt_or_eq.1 hlt with h | rfl;exact hi i h;exact h6⟩,mu hj (inc hG hj (by omega)) h3,by constructor<;>cbv<;>simp⟩
 ·have h3:l.length≤n:=by simpa [hG,std,cmpS,arS,beqS,hj] using h3
  refine hq _ _ ⟨_,rfl,rfl,?_⟩
  rw [hchk,if_pos (all_gu fun i hlt=>decide_eq_true (hi i (by omega)))]
  rfl
theorem rnorm_ok (l:List Int) (s:Bool) (hl:l.length<2^20):FvC CX TB (.f 87 [] []) [.a [.u l,.b s]] [] (RV (nB l) (nS l s)):=by
 refine fn_ok rfl rfl fun B D G hG q hq=>?_
 cbv
 refine call hG [] (rcheck_ok l s) ⟨rfl,rfl,rfl⟩ ?_
 rintro _ _ ⟨e,rfl,rfl,he⟩
 cbv
 refine SX.ite hG (fun h1=>?_) (fun h1=>?_)
 ·have h1:¬ e=0:=by simpa [hG,std,cmpS,arS,beqS] using h1
  exact hq _ _ ⟨_,_,rfl,rfl,by rw [nB,if_neg (by rw [←he];exact h1)];rfl,by rw [nS,if_neg (by rw [←he];exact h1)]⟩
 ·have h1:e=0:=by simpa [hG,std,cmpS,arS,beqS] using h1
  have hap:G.ap 0 (G.lu l):=by rw [hG];simp only [std];omega
  exact ⟨hap,okd hG rfl (hq _ _ ⟨_,_,rfl,rfl,by rw [nB,if_pos (by rw [←he];exact h1)],by rw [nS,if_pos (by rw [←he];exact h1)]⟩)⟩
theorem own_ok (l:List Int) (s:Bool) (hl:l.length<2^20):FvC CX TB (.f 72 [] []) [.a [.u l,.b s]] [] (RV l s):=by
 refine fn_ok rfl rfl fun B D G hG q hq=>?_
 cbv
 have hap:G.ap 0 (G.lu l):=by rw [hG];simp only [std];omega
 exact ⟨hap,okd hG rfl (hq _ _ ⟨_,_,rfl,rfl,rfl,rfl⟩)⟩
end Go.Proofs.YtdgbdkfoeaollaaGreatDoor.V
end
section
set_option linter.unusedSimpArgs false
set_option linter.unusedVariables false
namespace Go.Proofs.YtdgbdkfoeaollaaGreatDoor.V
open Go Go.AL Go.SX
def fitF (l:List Int) (s:Bool) (i:Nat):Int:=if i<l.length then gu l i else top l s
theorem fit_rsz (l:List Int) (s:Bool) (w:Nat):(List.range w).map (fitF l s)=rsz l s w:=by
 refine gu_ext (by rw [rsz_len];simp) fun i hi=>?_
 have hi:i<w:=by simpa using hi
 have e1:gu ((List.range w).map (fitF l s)) i=fitF l s i:=by
  unfold gu
  rw [Int.toNat_natCast,List.getElem?_map,List.getElem?_range hi];rfl
 rw [e1]
 unfold fitF rsz
 split
 ·rename_i h
  split
  ·rw [gu_take hi]
  ·unfold gu
   rw [Int.toNat_natCast,List.getElem?_append_left h]
 ·rename_i h
  rw [if_neg (by omega)]
  unfold gu
  rw [Int.toNat_natCast,List.getElem?_append_right (by omega),List.getElem?_replicate,if_pos (by omega)];rfl
theorem rfit_ok (l:List Int) (s:Bool) (w:Int) (hne:l≠[]) (hl:l.length<2^14) (hw:1≤w∧w<2^14):FvC CX TB (.f 146 [] []) [.a [.u l,.b s],.i .i64 w] [] (RV (rsz l s w.toNat) s):=by
 have hpos:=List.length_pos_iff.2 hne
 obtain ⟨W,hW⟩:∃ W:Nat,w=(W:Int):=⟨w.toNat,by omega⟩
 have hWlt:W<2^14:=by omega
 refine fn_ok rfl rfl fun B D G hG q hq=>?_
 cbv
 refine lp_regB hG 2 0 (.u []) rfl rfl ?_
 refine lp hG (α:=Int×List Int) (fun p=>∃ n:Nat,p.1=(n:Int)∧n≤W∧p.2=(List.range n).map (fitF l s)) (fun p=>W-p.1.toNat) (fun s p=>(s.put (some 6) (.i .i64 p.1)).setO 3 (.u p.2)) (0,[]) ⟨0,rfl,Nat.zero_le _,by simp⟩ (by constructor<;>cbv<;>simp) ?_
 rintro ⟨j,L⟩ ⟨n,hj,hn,hL⟩
 have hL:L=(List.range n).map (fitF l s):=hL
 have hlen:L.length=n:=by rw [hL];simp
 cbv
 have hj:j=(n:Int):=hj
 have hap:∀ x:Int,G.ap (G.lu L) (G.lu [x]):=fun x=>by subst hG;simp only [std];simp;omega
 have hx:∀ x:Int,x=fitF l s n→G.apu L [x]=(List.range (n+1)).map (fitF l s):=fun x hx=>by
  rw [List.range_succ,List.map_append,←hL,List.map_cons,List.map_nil,hx];subst hG;rfl
 refine SX.ite hG (fun h3=>?_) (fun h3=>?_)
 ·have h3:n<W:=by
   rw [hG,hj,hW] at h3
   have h3:(n:Int)<(W:Int):=of_decide_eq_true h3
   omega
  refine SX.ite hG (fun h4=>?_) (fun h4=>?_)
  ·have h4:n<l.length:=by
    rw [hG,hj] at h4
    have h4:(n:Int)<(l.length:Int):=of_decide_eq_true h4
    omega
   have v1:G.ix j (G.lu l):=by rw [hG,hj];show 0≤(n:Int)∧(n:Int)<(l.length:Int);omega
   have e1:G.gu l j=fitF l s n:=by unfold fitF;rw [if_pos h4,hG,hj];rfl
   refine ⟨v1,hap _,okd hG rfl ?_⟩
   exact ⟨(G.ar .add .i64 j (Int.ofNat 1),G.apu L [G.gu l j]),⟨n+1,inc hG hj (by omega),h3,hx _ e1⟩,mu hj (inc hG hj (by omega)) h3,by constructor<;>cbv<;>simp⟩
  have h4:¬ n<l.length:=by
   rw [hG,hj] at h4
   have h4:¬ (n:Int)<(l.length:Int):=of_decide_eq_false h4
   omega
  refine SX.ite hG (fun h5=>?_) (fun h5=>?_)
  ·have e0:G.ar .sub .i64 (G.lu l) (Int.ofNat 1)=((l.length-1:Nat):Int):=by
    rw [subi hG (by rw [hG];show _≤(l.length:Int)-1∧(l.length:Int)-1<_;omega),hG]
    show (l.length:Int)-1=_
    omega
   have v1:G.ix (G.ar .sub .i64 (G.lu l) (Int.ofNat 1)) (G.lu l):=by rw [e0,hG];show 0≤((l.length-1:Nat):Int)∧((l.length-1:Nat):Int)<(l.length:Int);omega
   have e1:G.gu l (G.ar .sub .i64 (G.lu l) (Int.ofNat 1))=fitF l s n:=by unfold fitF top;rw [if_neg h4,if_pos h5,e0,hG];rfl
   refine ⟨v1,hap _,okd hG rfl ?_⟩
   exact ⟨(G.ar .add .i64 j (Int.ofNat 1),G.apu L [G.gu l (G.ar .sub .i64 (G.lu l) (Int.ofNat 1))]),⟨n+1,inc hG hj (by omega),h3,hx _ e1⟩,mu hj (inc hG hj (by omega)) h3,by constructor<;>cbv<;>simp⟩
  ·refine ⟨hap _,?_⟩
   exact ⟨(G.ar .add .i64 j (Int.ofNat 1),G.apu L [Int.ofNat 0]),⟨n+1,inc hG hj (by omega),h3,hx _ (by unfold fitF top;rw [if_neg h4,h5];rfl)⟩,mu hj (inc hG hj (by omega)) h3,by constructor<;>cbv<;>simp⟩
 ·have h3:W≤n:=by
   rw [hG,hj,hW] at h3
   have h3:¬ (n:Int)<(W:Int):=of_decide_eq_false h3
   omega
  refine hq _ _ ⟨_,_,rfl,rfl,?_,rfl⟩
  rw [hL,fit_rsz,hW,show n=W by omega];rfl
theorem long3_ok (l m n:List Int) (s t u:Bool):FvC CX TB (.f 10 [] []) [.r 2 [.u l,.b s,.u m,.b t,.u n,.b u]] [] (RB (decide (140<l.length)||decide (140<m.length)||decide (140<n.length))):=by
 refine fn_ok rfl rfl fun B D G hG q hq=>?_
 cbv
 refine lp_one hG ?_
 cbv
 refine SX.ite hG (fun h1=>?_) (fun h1=>?_)
 ·have h1:140<l.length:=by have hq_:=h1;simp [hG,std,cmpS,arS,beqS] at hq_;omega
  exact hq _ _ ⟨_,rfl,rfl,by simp [h1]⟩
 have h1:¬ 140<l.length:=by have hq_:=h1;simp [hG,std,cmpS,arS,beqS] at hq_;omega
 refine lp_one hG ?_
 cbv
 refine SX.ite hG (fun h2=>?_) (fun h2=>?_)
 ·have h2:140<m.length:=by have hq_:=h2;simp [hG,std,cmpS,arS,beqS] at hq_;omega
  exact hq _ _ ⟨_,rfl,rfl,by simp [h2]⟩
 have h2:¬ 140<m.length:=by have hq_:=h2;simp [hG,std,cmpS,arS,beqS] at hq_;omega
 refine lp_one hG ?_
 cbv
 refine SX.ite hG (fun h3=>?_) (fun h3=>?_)
 ·have h3:140<n.length:=by have hq_:=h3;simp [hG,std,cmpS,arS,beqS] at hq_;omega
  exact hq _ _ ⟨_,rfl,rfl,by simp [h3]⟩
 have h3:¬ 140<n.length:=by have hq_:=h3;simp [hG,std,cmpS,arS,beqS] at hq_;omega
 refine lp_one hG ?_
 cbv
 exact hq _ _ ⟨_,rfl,rfl,by simp [h1,h2,h3]⟩
end Go.Proofs.YtdgbdkfoeaollaaGreatDoor.V
end
section
set_option linter.unusedSimpArgs false
set_option linter.unusedVariables false
namespace Go.Proofs.YtdgbdkfoeaollaaGreatDoor.V
open Go Go.AL Go.SX
theorem ext0V:X.Ext0 extV:=by
 rintro f ⟨h1,h2⟩
 unfold extV
 rw [if_neg h1,if_neg h2]
theorem isR_rdS {H H':AH} {v:Value} {l:List Bool} (h:IsR H H' v l):RdS (fun id=>Own [] [] id∨id<H.n) H' v (boolV l):=by
 have e:(boolV l).length=l.length:=by simp [boolV]
 rcases h with ⟨rfl,rfl⟩ | ⟨id,off,cap,bk,rfl,hc,h1,h2,h3,h4,h5,h6,h7⟩
 ·exact ⟨none,0,rfl,.inr (Nat.le_refl _),fun h=>absurd rfl h⟩
 ·refine ⟨_,cap,by rw [e],by rw [e];exact hc,fun _=>⟨_,rfl,bk,h2,?_,h3,fun i v hv=>?_⟩⟩
  ·rintro (⟨i,o,w,k1,_⟩ | k)
   ·simp at k1
   ·exact absurd h1 (Nat.not_le.2 k)
  ·simp only [boolV,List.getElem?_map,Option.map_eq_some_iff] at hv
   obtain ⟨b,hb,rfl⟩:=hv
   exact h6 i b hb
theorem frm_ext {H H':AH} (h:AL.Ext H H'):Frm (Own [] []) H H':=⟨h.n,fun id hid _=>h.get id hid,fun x h1 h2 _=>Nat.le_trans (Nat.le_min.2 ⟨h1,h2⟩) h.wl⟩
theorem obs_nil (H:AH):Obs [] [] H:=⟨rfl,fun i o v h=>by simp at h,fun i j o o' v v' id h=>by simp at h⟩
def Cm (H:AH) (Q:SV→List SX.Obj→Prop) (v:Value) (H':AH):Prop:=AL.Ext H H'∧∃ r,Q r []∧Den (fun id=>Own [] [] id∨id<H.n) [] H' r v
theorem br_any {k:Nat} {args:List SV} {Q:SV→List SX.Obj→Prop} (h:∀ H vs,DenL (Own [] []) [] H args vs→Run CX k vs H (Cm H Q)):FvC CX TB (.f k [] []) args [] Q:=by
 intro H m vf vs ho hgl hdf hda
 obtain rfl:m=[]:=List.length_eq_zero_iff.1 ho.len
 simp only [Den,DenL] at hdf
 obtain ⟨vf',vc,rfl,rfl,rfl⟩:=hdf
 refine ⟨k,[],[],rfl,?_⟩
 have e2:([]:List Value)++(vs++[])=vs:=by simp
 rw [e2]
 refine (h H vs hda).mono fun v H' ⟨h1,r,h2,h3⟩=>⟨[],r,[],h2,obs_nil _,rfl,h3,fun id ⟨i,o,w,k1,_⟩=>by simp at k1,frm_ext h1⟩
end Go.Proofs.YtdgbdkfoeaollaaGreatDoor.V
end
section
set_option linter.unusedSimpArgs false
set_option linter.unusedVariables false
namespace Go.Proofs.YtdgbdkfoeaollaaGreatDoor.V
open Go Go.AL Go.SX
def I64 (x:Int):Prop:=-9223372036854775808≤x∧x<9223372036854775808
theorem wrap64 {x:Int} (h:I64 x):fwrap .i64 x=x:=X.fw64 (by have:=h.1;omega) (by have:=h.2;omega)
theorem addw {B:AH} {D:Bs} {G:Sg} (hG:G=std CX TB B D) {a b:Int} (h:I64 (a+b)):G.ar .add .i64 a b=a+b:=by
 subst hG;exact wrap64 h
theorem subw {B:AH} {D:Bs} {G:Sg} (hG:G=std CX TB B D) {a b:Int} (h:I64 (a-b)):G.ar .sub .i64 a b=a-b:=by
 subst hG;exact wrap64 h
def win (hi lo:Int):Int:=if hi<lo then 1 else if 128≤hi-lo then 12 else 0
theorem fwu_mod (x:Int):fwrap .u64 x=x % 18446744073709551616:=by
 rw [fwrap_eq]
 rfl
theorem window_ok (hi lo:Int) (h1:I64 hi) (h2:I64 lo):FvC CX TB (.f 109 [] []) [.i .i64 hi,.i .i64 lo] [] (RI .i64 (win hi lo)):=by
 unfold I64 at h1 h2
 refine fn_ok rfl rfl fun B D G hG q hq=>?_
 cbv
 refine SX.ite hG (fun h3=>?_) (fun h3=>?_)
 ·have h4:hi<lo:=by rw [hG] at h3;exact of_decide_eq_true h3
  exact hq _ _ ⟨_,rfl,rfl,by rw [win,if_pos h4];rfl⟩
 have h4:¬ hi<lo:=by rw [hG] at h3;exact of_decide_eq_false h3
 have e:G.ar .sub .u64 (G.cv .u64 hi) (G.cv .u64 lo)=hi-lo:=by
  subst hG
  show fwrap .u64 (fwrap .u64 hi-fwrap .u64 lo)=_
  rw [fwu_mod,fwu_mod,fwu_mod]
  omega
 refine SX.ite hG (fun h5=>?_) (fun h5=>?_)
 ·have h5:G.cmp .geq (G.ar .sub .u64 (G.cv .u64 hi) (G.cv .u64 lo)) 128=true:=h5
  have h6:hi-lo≥128:=by rw [e,hG] at h5;exact of_decide_eq_true h5
  exact hq _ _ ⟨_,rfl,rfl,by rw [win,if_neg h4,if_pos (by omega)];rfl⟩
 ·have h5:G.cmp .geq (G.ar .sub .u64 (G.cv .u64 hi) (G.cv .u64 lo)) 128=false:=h5
  have h6:¬ hi-lo≥128:=by rw [e,hG] at h5;exact of_decide_eq_false h5
  exact hq _ _ ⟨_,rfl,rfl,by rw [win,if_neg h4,if_neg (by omega)];rfl⟩
theorem win_zero {hi lo:Int} (h:win hi lo=0):lo≤hi∧hi-lo<128:=by
 unfold win at h
 split at h
 ·cases h
 ·split at h
  ·cases h
  ·omega
theorem vresize_ok (l:List Int) (s:Bool) (w:Int) (hl:l.length<2^15) (hb:Byt l):FvC CX TB (.f 22 [] []) [.a [.u l,.b s],.i .i64 w] [] (RE (okW w) (rsz (nB l) (nS l s) w.toNat) (nS l s) 12):=by
 have nv:=nB_nv hb
 refine fn_ok rfl rfl fun B D G hG q hq=>?_
 cbv
 refine call hG [] (width_ok w) ⟨rfl,rfl,rfl⟩ ?_
 rintro _ _ ⟨c,rfl,rfl,hc⟩
 cbv
 refine SX.ite hG (fun h1=>?_) (fun h1=>?_)
 ·have e:c=false:=by rw [hG] at h1;simpa [std] using h1
  exact hq _ _ (.inr ⟨by rw [←hc];exact e,_,_,rfl,rfl,rfl,rfl⟩)
 have e:c=true:=by rw [hG] at h1;simpa [std] using h1
 have hw:1≤w∧w≤128:=by
  rw [hc] at e
  unfold okW at e
  simpa using e
 refine call hG [] (norm_ok l s hl) ⟨rfl,rfl,rfl⟩ ?_
 rintro _ _ ⟨M,t,rfl,rfl,hM,ht⟩
 cbv
 have nvM:NV M:=by rw [hM];exact nv
 have hlen:=nvM.len
 refine call hG [2] (resize_ok M t w nvM.ne (by omega) (by omega)) ⟨rfl,rfl,rfl⟩ ?_
 rintro _ _ ⟨L,g,rfl,rfl,hL,hg⟩
 cbv
 exact hq _ _ (.inl ⟨by rw [←hc];exact e,_,_,_,rfl,rfl,by rw [hL,hM,ht],by rw [hg,ht],rfl⟩)
def slF (L:List Int) (lo:Int) (k:Nat):Int:=if 0≤lo+(k:Int)∧lo+(k:Int)<(L.length:Int) then gu L (lo+(k:Int)) else 2
def slc (L:List Int) (hi lo:Int):List Int:=(List.range (hi-lo+1).toNat).map (slF L lo)
theorem slc_len (L:List Int) (hi lo:Int):(slc L hi lo).length=(hi-lo+1).toNat:=by simp [slc]
theorem slc_get {L:List Int} {hi lo:Int} {i:Nat} (h:i<(hi-lo+1).toNat):gu (slc L hi lo) i=slF L lo i:=by
 show (((List.range (hi-lo+1).toNat).map (slF L lo))[((i:Nat):Int).toNat]?).getD 0=_
 rw [Int.toNat_natCast,List.getElem?_map,List.getElem?_range h];rfl
theorem slice_ok (l:List Int) (s:Bool) (hi lo:Int) (hl:l.length<2^15) (hb:Byt l) (h1:I64 hi) (h2:I64 lo):FvC CX TB (.f 26 [] []) [.a [.u l,.b s],.i .i64 hi,.i .i64 lo] [] (RE (decide (win hi lo=0)) (slc (nB l) hi lo) false (win hi lo)):=by
 have nv:=nB_nv hb
 refine fn_ok rfl rfl fun B D G hG q hq=>?_
 cbv
 refine call hG [] (window_ok hi lo h1 h2) ⟨rfl,rfl,rfl⟩ ?_
 rintro _ _ ⟨c,rfl,rfl,hc⟩
 cbv
 refine SX.ite hG (fun h3=>?_) (fun h3=>?_)
 ·have h4:¬ c=0:=by rw [hG] at h3;simpa [std,cmpS] using h3
  exact hq _ _ (.inr ⟨by rw [←hc];exact decide_eq_false h4,_,_,rfl,rfl,rfl,hc⟩)
 have h4:c=0:=by rw [hG] at h3;simpa [std,cmpS] using h3
 have hw:=win_zero (by rw [←hc];exact h4)
 unfold I64 at h1 h2
 obtain ⟨Z,hZ⟩:∃ Z:Nat,hi-lo+1=(Z:Int):=⟨(hi-lo+1).toNat,by omega⟩
 have hZ1:1≤Z∧Z≤128:=by omega
 have hZi:∀ k:Nat,k<Z→I64 (lo+(k:Int)):=fun k hk=>by unfold I64;omega
 have hZn:(hi-lo+1).toNat=Z:=by omega
 have e1:G.ar .add .i64 (G.ar .sub .i64 hi lo) (Int.ofNat 1)=(Z:Int):=by
  rw [subw hG (by unfold I64;omega),addw hG (by unfold I64;show _≤hi-lo+1∧hi-lo+1<_;omega)]
  exact hZ
 refine call hG [] (norm_ok l s hl) ⟨rfl,rfl,rfl⟩ ?_
 rintro _ _ ⟨M,t,rfl,rfl,hM,ht⟩
 cbv
 have nvM:NV M:=by rw [hM];exact nv
 have hlen:=nvM.len
 refine call hG [] (fill_ok (.ofNat 2) (G.ar .add .i64 (G.ar .sub .i64 hi lo) (Int.ofNat 1)) false (by rw [e1];omega)) ⟨rfl,rfl,rfl⟩ ?_
 rintro _ _ ⟨F,g,rfl,rfl,hF,hg⟩
 cbv
 rw [e1] at hF
 have hFl:F.length=Z:=by rw [hF];simp
 have hF2:∀ i:Nat,i<Z→gu F i=2:=fun i hi=>by
  rw [hF];unfold gu;rw [Int.toNat_natCast,List.getElem?_replicate,if_pos (by simpa using hi)];rfl
 refine lp hG (α:=Int×List Int) (fun p=>∃ n:Nat,p.1=(n:Int)∧n≤Z∧p.2.length=Z∧∀ i:Nat,i<Z→gu p.2 i=if i<n then slF M lo i else 2) (fun p=>Z-p.1.toNat) (fun s p=>(s.put (some 29) (.i .i64 p.1)).setO 3 (.u p.2)) (0,F) ⟨0,rfl,Nat.zero_le _,hFl,by simpa using hF2⟩ (by constructor<;>cbv<;>simp) ?_
 rintro ⟨j,L⟩ ⟨n,hj,hn,hL,hi5⟩
 have hL:L.length=Z:=hL
 cbv
 have hj:j=(n:Int):=hj
 have hi5:∀ i:Nat,i<Z→gu L i=if i<n then slF M lo i else 2:=hi5
 have key:∀ x,x=slF M lo n→G.su L j x=L.set n (slF M lo n):=fun x hx=>by rw [hx,hG,hj];rfl
 have inv:n<Z→∀ i:Nat,i<Z→gu (L.set n (slF M lo n)) i=if i<n+1 then slF M lo i else 2:=fun h i hlt=>by
  rw [gu_set (by omega)]
  split
  ·rename_i e;rw [e,if_pos (by omega)]
  ·rw [hi5 i hlt]
   by_cases h5:i<n
   ·rw [if_pos h5,if_pos (by omega)]
   ·rw [if_neg h5,if_neg (by omega)]
 have inv2:n<Z→slF M lo n=2→∀ i:Nat,i<Z→gu L i=if i<n+1 then slF M lo i else 2:=fun h hs i hlt=>by
  rw [hi5 i hlt]
  by_cases h5:i<n
  ·rw [if_pos h5,if_pos (by omega)]
  ·rw [if_neg h5]
   by_cases h7:i=n
   ·rw [if_pos (by omega),h7,hs]
   ·rw [if_neg (by omega)]
 refine SX.ite hG (fun h6=>?_) (fun h6=>?_)
 ·have h6:n<Z:=by
   rw [hG,hj] at h6
   have h6:(n:Int)<(F.length:Int):=of_decide_eq_true h6
   omega
  have ea:G.ar .add .i64 lo j=lo+(n:Int):=by rw [hj];exact addw hG (hZi n h6)
  refine SX.ite hG (fun h7=>?_) (fun h7=>?_)
  ·have h7:lo+(n:Int)≥0:=by
    have h7:G.cmp .geq (G.ar .add .i64 lo j) 0=true:=h7
    rw [ea,hG] at h7;exact of_decide_eq_true h7
   refine SX.ite hG (fun h8=>?_) (fun h8=>?_)
   ·have h8:lo+(n:Int)<(M.length:Int):=by
     have h8:G.cmp .lss (G.ar .add .i64 lo j) (G.lu M)=true:=h8
     rw [ea,hG] at h8;exact of_decide_eq_true h8
    have v1:G.ix (G.ar .add .i64 lo j) (G.lu M):=by rw [ea,hG];exact ⟨h7,h8⟩
    have v2:G.ix j (G.lu L):=by rw [hG,hj];show 0≤(n:Int)∧(n:Int)<(L.length:Int);omega
    refine ⟨v1,v1,v2,v2,okd hG rfl ?_⟩
    have ex:G.gu M (G.ar .add .i64 lo j)=slF M lo n:=by unfold slF;rw [if_pos ⟨h7,h8⟩,ea,hG];rfl
    have ek:=key _ ex
    have iv:=inv h6
    rw [←ek] at iv
    have il:(G.su L j (G.gu M (G.ar .add .i64 lo j))).length=Z:=by rw [ek];simp [hL]
    exact ⟨(G.ar .add .i64 j (Int.ofNat 1),G.su L j (G.gu M (G.ar .add .i64 lo j))),⟨n+1,inc hG hj (by omega),h6,il,iv⟩,mu hj (inc hG hj (by omega)) h6,by constructor<;>cbv<;>simp⟩
   ·have h8:¬ lo+(n:Int)<(M.length:Int):=by
     have h8:G.cmp .lss (G.ar .add .i64 lo j) (G.lu M)=false:=h8
     rw [ea,hG] at h8;exact of_decide_eq_false h8
    exact ⟨(G.ar .add .i64 j (Int.ofNat 1),L),⟨n+1,inc hG hj (by omega),h6,hL,inv2 h6 (by unfold slF;rw [if_neg (by omega)])⟩,mu hj (inc hG hj (by omega)) h6,by constructor<;>cbv<;>simp⟩
  ·have h7:¬ lo+(n:Int)≥0:=by
    have h7:G.cmp .geq (G.ar .add .i64 lo j) 0=false:=h7
    rw [ea,hG] at h7;exact of_decide_eq_false h7
   exact ⟨(G.ar .add .i64 j (Int.ofNat 1),L),⟨n+1,inc hG hj (by omega),h6,hL,inv2 h6 (by unfold slF;rw [if_neg (by omega)])⟩,mu hj (inc hG hj (by omega)) h6,by constructor<;>cbv<;>simp⟩
 ·have h6:Z≤n:=by
   rw [hG,hj] at h6
   have h6:¬ (n:Int)<(F.length:Int):=of_decide_eq_false h6
   omega
  refine hq _ _ (.inl ⟨by rw [←hc];exact decide_eq_true h4,_,_,_,rfl,rfl,?_,hg,rfl⟩)
  rw [←hM]
  refine gu_ext (by rw [hL,slc_len,hZn]) fun i hlt=>?_
  rw [hL] at hlt
  rw [hi5 i hlt,if_pos (by omega),slc_get (by rw [hZn];exact hlt)]
def ptF (A:List Int) (lo:Int) (B:List Int) (n:Nat) (i:Nat):Int:=if lo≤(i:Int)∧(i:Int)<lo+(n:Int) then gu B ((i:Int)-lo) else gu A i
def putL (A:List Int) (lo:Int) (B:List Int):List Int:=(List.range A.length).map (ptF A lo B B.length)
theorem putL_len (A:List Int) (lo:Int) (B:List Int):(putL A lo B).length=A.length:=by simp [putL]
theorem putL_get {A:List Int} {lo:Int} {B:List Int} {i:Nat} (h:i<A.length):gu (putL A lo B) i=ptF A lo B B.length i:=by
 show (((List.range A.length).map (ptF A lo B B.length))[((i:Nat):Int).toNat]?).getD 0=_
 rw [Int.toNat_natCast,List.getElem?_map,List.getElem?_range h];rfl
theorem put_ok (l m:List Int) (s t:Bool) (hi lo:Int) (hl:l.length<2^15) (hm:m.length<2^15) (bl:Byt l) (bm:Byt m) (h1:I64 hi) (h2:I64 lo):FvC CX TB (.f 27 [] []) [.a [.u l,.b s],.i .i64 hi,.i .i64 lo,.a [.u m,.b t]] [] (RE (decide (win hi lo=0)) (putL (nB l) lo (rsz (nB m) (nS m t) (hi-lo+1).toNat)) (nS l s) (win hi lo)):=by
 have nvl:=nB_nv bl
 have nvm:=nB_nv bm
 refine fn_ok rfl rfl fun B D G hG q hq=>?_
 cbv
 refine call hG [] (window_ok hi lo h1 h2) ⟨rfl,rfl,rfl⟩ ?_
 rintro _ _ ⟨c,rfl,rfl,hc⟩
 cbv
 refine SX.ite hG (fun h3=>?_) (fun h3=>?_)
 ·have h4:¬ c=0:=by rw [hG] at h3;simpa [std,cmpS] using h3
  exact hq _ _ (.inr ⟨by rw [←hc];exact decide_eq_false h4,_,_,rfl,rfl,rfl,hc⟩)
 have h4:c=0:=by rw [hG] at h3;simpa [std,cmpS] using h3
 have hw:=win_zero (by rw [←hc];exact h4)
 unfold I64 at h1 h2
 obtain ⟨Z,hZ⟩:∃ Z:Nat,hi-lo+1=(Z:Int):=⟨(hi-lo+1).toNat,by omega⟩
 have hZ1:1≤Z∧Z≤128:=by omega
 have hZi:∀ k:Nat,k<Z→I64 (lo+(k:Int)):=fun k hk=>by unfold I64;omega
 have hZn:(hi-lo+1).toNat=Z:=by omega
 rw [hZn] at hq
 have e1:G.ar .add .i64 (G.ar .sub .i64 hi lo) (Int.ofNat 1)=(Z:Int):=by
  rw [subw hG (by unfold I64;omega),addw hG (by unfold I64;show _≤hi-lo+1∧hi-lo+1<_;omega)]
  exact hZ
 refine call hG [] (norm_ok l s hl) ⟨rfl,rfl,rfl⟩ ?_
 rintro _ _ ⟨A,g1,rfl,rfl,hA,hg1⟩
 cbv
 have nvA:NV A:=by rw [hA];exact nvl
 have lenA:=nvA.len
 refine call hG [] (norm_ok m t hm) ⟨rfl,rfl,rfl⟩ ?_
 rintro _ _ ⟨M,g2,rfl,rfl,hM,hg2⟩
 cbv
 have nvM:NV M:=by rw [hM];exact nvm
 have lenM:=nvM.len
 refine call hG [4] (resize_ok M g2 (G.ar .add .i64 (G.ar .sub .i64 hi lo) (Int.ofNat 1)) nvM.ne (by omega) (by rw [e1];omega)) ⟨rfl,rfl,rfl⟩ ?_
 rintro _ _ ⟨F,g3,rfl,rfl,hF,hg3⟩
 cbv
 rw [e1,Int.toNat_natCast] at hF
 have hFl:F.length=Z:=by rw [hF,rsz_len]
 refine okd hG rfl ?_
 refine lp hG (α:=Int×List Int) (fun p=>∃ n:Nat,p.1=(n:Int)∧n≤Z∧p.2.length=A.length∧∀ i:Nat,i<A.length→gu p.2 i=ptF A lo F n i) (fun p=>Z-p.1.toNat) (fun s p=>(s.put (some 33) (.i .i64 p.1)).setO 3 (.u p.2)) (0,A) ⟨0,rfl,Nat.zero_le _,rfl,fun i hi=>by unfold ptF;rw [if_neg (by omega)]⟩ (by constructor<;>cbv<;>simp) ?_
 rintro ⟨j,L⟩ ⟨n,hj,hn,hL,hi5⟩
 have hL:L.length=A.length:=hL
 cbv
 have hj:j=(n:Int):=hj
 have hi5:∀ i:Nat,i<A.length→gu L i=ptF A lo F n i:=hi5
 refine SX.ite hG (fun h6=>?_) (fun h6=>?_)
 ·have h6:n<Z:=by
   rw [hG,hj] at h6
   have h6:(n:Int)<(F.length:Int):=of_decide_eq_true h6
   omega
  have v1:G.ix j (G.lu F):=by rw [hG,hj];show 0≤(n:Int)∧(n:Int)<(F.length:Int);omega
  refine ⟨v1,v1,?_⟩
  have ea:G.ar .add .i64 lo j=lo+(n:Int):=by rw [hj];exact addw hG (hZi n h6)
  have same:¬ (0≤lo+(n:Int)∧lo+(n:Int)<(A.length:Int))→∀ i:Nat,i<A.length→gu L i=ptF A lo F (n+1) i:=fun h i hlt=>by
   rw [hi5 i hlt]
   unfold ptF
   by_cases h5:lo≤(i:Int)∧(i:Int)<lo+(n:Int)
   ·rw [if_pos h5,if_pos (by omega)]
   ·rw [if_neg h5,if_neg (by omega)]
  refine SX.ite hG (fun h7=>?_) (fun h7=>?_)
  ·have h7:lo+(n:Int)≥0:=by
    have h7:G.cmp .geq (G.ar .add .i64 lo j) 0=true:=h7
    rw [ea,hG] at h7;exact of_decide_eq_true h7
   refine SX.ite hG (fun h8=>?_) (fun h8=>?_)
   ·have h8:lo+(n:Int)<(A.length:Int):=by
     have h8:G.cmp .lss (G.ar .add .i64 lo j) (G.lu L)=true:=h8
     rw [ea,hG] at h8
     have h8:lo+(n:Int)<(L.length:Int):=of_decide_eq_true h8
     omega
    have v2:G.ix (G.ar .add .i64 lo j) (G.lu L):=by rw [ea,hG];show 0≤lo+(n:Int)∧lo+(n:Int)<(L.length:Int);omega
    refine ⟨v2,v2,?_⟩
    obtain ⟨k,hk⟩:∃ k:Nat,lo+(n:Int)=(k:Int):=⟨(lo+(n:Int)).toNat,by omega⟩
    have hkA:k<A.length:=by omega
    have ek:G.su L (G.ar .add .i64 lo j) (G.gu F j)=L.set k (gu F n):=by rw [ea,hk,hj,hG];rfl
    have il:(G.su L (G.ar .add .i64 lo j) (G.gu F j)).length=A.length:=by rw [ek];simp [hL]
    have iv:∀ i:Nat,i<A.length→gu (G.su L (G.ar .add .i64 lo j) (G.gu F j)) i=ptF A lo F (n+1) i:=fun i hlt=>by
     rw [ek,gu_set (by omega)]
     split
     ·rename_i e
      unfold ptF
      rw [if_pos (by omega)]
      congr 1
      omega
     ·rename_i e
      rw [hi5 i hlt]
      unfold ptF
      by_cases h5:lo≤(i:Int)∧(i:Int)<lo+(n:Int)
      ·rw [if_pos h5,if_pos (by omega)]
      ·rw [if_neg h5,if_neg (by omega)]
    exact ⟨(G.ar .add .i64 j (Int.ofNat 1),G.su L (G.ar .add .i64 lo j) (G.gu F j)),⟨n+1,inc hG hj (by omega),h6,il,iv⟩,mu hj (inc hG hj (by omega)) h6,by constructor<;>cbv<;>simp⟩
   ·have h8:¬ lo+(n:Int)<(A.length:Int):=by
     have h8:G.cmp .lss (G.ar .add .i64 lo j) (G.lu L)=false:=h8
     rw [ea,hG] at h8
     have h8:¬ lo+(n:Int)<(L.length:Int):=of_decide_eq_false h8
     omega
    exact ⟨(G.ar .add .i64 j (Int.ofNat 1),L),⟨n+1,inc hG hj (by omega),h6,hL,same (by omega)⟩,mu hj (inc hG hj (by omega)) h6,by constructor<;>cbv<;>simp⟩
  ·have h7:¬ lo+(n:Int)≥0:=by
    have h7:G.cmp .geq (G.ar .add .i64 lo j) 0=false:=h7
    rw [ea,hG] at h7;exact of_decide_eq_false h7
   exact ⟨(G.ar .add .i64 j (Int.ofNat 1),L),⟨n+1,inc hG hj (by omega),h6,hL,same (by omega)⟩,mu hj (inc hG hj (by omega)) h6,by constructor<;>cbv<;>simp⟩
 ·have h6:Z≤n:=by
   rw [hG,hj] at h6
   have h6:¬ (n:Int)<(F.length:Int):=of_decide_eq_false h6
   omega
  have hnZ:n=F.length:=by omega
  refine hq _ _ (.inl ⟨by rw [←hc];exact decide_eq_true h4,_,_,_,rfl,rfl,?_,hg1,rfl⟩)
  rw [←hA,←hM,←hg2,←hF]
  refine gu_ext (by rw [hL,putL_len]) fun i hlt=>?_
  rw [hL] at hlt
  rw [hi5 i hlt,putL_get hlt,hnZ]
end Go.Proofs.YtdgbdkfoeaollaaGreatDoor.V
end
section
set_option linter.unusedSimpArgs false
set_option linter.unusedVariables false
namespace Go.Proofs.YtdgbdkfoeaollaaGreatDoor.V
open Go Go.AL Go.SX
theorem gu_app {l m:List Int} {i:Nat}:gu (l++m) i=if i<l.length then gu l i else gu m (i-l.length:Nat):=by
 unfold gu
 simp only [Int.toNat_natCast]
 split
 ·rename_i h;rw [List.getElem?_append_left h]
 ·rename_i h;rw [List.getElem?_append_right (by omega)]
end Go.Proofs.YtdgbdkfoeaollaaGreatDoor.V
end
section
set_option linter.unusedSimpArgs false
set_option linter.unusedVariables false
namespace Go.Proofs.YtdgbdkfoeaollaaGreatDoor.V
open Go Go.AL Go.SX
theorem intL_len (l:List Bool):(intL l).length=l.length:=by simp [intL]
end Go.Proofs.YtdgbdkfoeaollaaGreatDoor.V
end
section
set_option linter.unusedSimpArgs false
set_option linter.unusedVariables false
namespace Go.Proofs.YtdgbdkfoeaollaaGreatDoor.V
open Go Go.AL Go.SX
end Go.Proofs.YtdgbdkfoeaollaaGreatDoor.V
end
