/- Contracts of the two-state vectors' functions (written for another seat, turned to this one by program). -/
import Derived.Test.YtdgbdkfoeaollaaGreatDoorIR
import Derived.Test.YtdgbdkfoeaollaaGreatDoorALe
set_option linter.unusedSimpArgs false
set_option linter.unusedVariables false
namespace Go.Proofs.YtdgbdkfoeaollaaGreatDoor.X
section
open Go Go.AL
def bx (l:List Bool) (i:Nat):Bool:=l.getD i false
theorem bx_lt {l:List Bool} {n:Nat} (h:n<l.length):l[n]?=some (bx l n):=by simp [bx,List.getD_eq_getElem?_getD,h]
variable {ext:Nat→Option (List Value→AH→Option (Value×AH))}
abbrev Cx (ext:Nat→Option (List Value→AH→Option (Value×AH))):Ctx:=⟨IR.ft,ext⟩
def Ext0 (ext:Nat→Option (List Value→AH→Option (Value×AH))):Prop:=∀ f,(f≠24∧f≠11)→ext f=none
end
section
open Go Go.AL
def val:List Bool→Nat
 | []=>0
 | b::r=>b.toNat+2*val r
theorem ext_bits {l m:List Bool} (hl:l.length=m.length) (h:∀ i,i<l.length→bx l i=bx m i):l=m:=by
 apply List.ext_getElem?
 intro i
 by_cases hi:i<l.length
 ·rw [bx_lt hi,bx_lt (by omega),h i hi]
 ·rw [List.getElem?_eq_none (by omega),List.getElem?_eq_none (by omega)]
end
section
open Go Go.AL
variable {ext:Nat→Option (List Value→AH→Option (Value×AH))}
theorem lit1 {H:AH} (b:Bool):IsB (H.new ⟨[.bool b],0⟩) (.slice (some ⟨H.n,0,none⟩) 1 1) [b]:=
 ⟨_,_,rfl,.inr (Nat.le_refl _),fun _=>⟨_,⟨[.bool b],0⟩,rfl,Nat.lt_succ_self _,T.get_set_self _ _ _,fun i c hc=>by
  cases i with
  | zero=>simpa using hc
  | succ i=>simp at hc⟩⟩
end
section
open Go Go.AL
variable {ext:Nat→Option (List Value→AH→Option (Value×AH))}
theorem wrap_small {x:Nat} (h:x<2^63):IntKind.wrap .i64 (x:Int)=(x:Int):=by
 have e:(x:Int) % 2^64=x:=Int.emod_eq_of_lt (by omega) (by omega)
 unfold IntKind.wrap
 simp only [show IntKind.bits .i64=64 from rfl,show IntKind.signed .i64=true from rfl,e,Bool.true_and,decide_eq_true_eq,Nat.reduceSub]
 rw [if_neg (by omega)]
theorem and1 (a:Int):IntKind.wrap .i64 ((BitVec.ofInt (IntKind.bits .i64) a &&& BitVec.ofInt (IntKind.bits .i64) 1).toNat:Int)=a % 2:=by
 have e:(BitVec.ofInt (IntKind.bits .i64) a &&& BitVec.ofInt (IntKind.bits .i64) 1).toNat=(a % 2).toNat:=by
  rw [BitVec.toNat_and,show (BitVec.ofInt (IntKind.bits .i64) 1).toNat=1 from rfl,Nat.and_one_is_mod]
  show (BitVec.ofInt 64 a).toNat % 2=_
  rw [BitVec.toNat_ofInt]
  omega
 rw [e,wrap_small (by omega)]
 omega
def ofI (n:Nat) (x:Int):List Bool:=(List.range n).map fun i=>x.fdiv (2^i) % 2 == 1
theorem ofI_length (n:Nat) (x:Int):(ofI n x).length=n:=by simp [ofI]
theorem ofI_succ (n:Nat) (x:Int):ofI (n+1) x=ofI n x++[x.fdiv (2^n) % 2 == 1]:=by simp [ofI,List.range_succ]
theorem fdiv_succ (x:Int) (k:Nat):(x.fdiv (2^k)).fdiv 2=x.fdiv (2^(k+1)):=by
 rw [Int.fdiv_eq_ediv_of_nonneg _ (by decide),Int.fdiv_eq_ediv_of_nonneg _ (Int.le_of_lt (Int.pow_pos (by decide))),Int.fdiv_eq_ediv_of_nonneg _ (Int.le_of_lt (Int.pow_pos (by decide))),Int.ediv_ediv_of_nonneg (Int.le_of_lt (Int.pow_pos (by decide))),Int.pow_succ]
theorem FromInt_any (hx:Ext0 ext) {H:AH} {x:Int} {n:Nat} (hn:n≤128) :
  Run (Cx ext) 144 [.int .i64 x,.int .i64 n] H fun r H'=>AL.Ext H H'∧∃ v,r=.tuple ⟨[v,.int .i64 0]⟩∧IsG H H' v (ofI n x):=by
 refine Run.intro (fi:=IR.fi144) (hx 144 (by decide)) (by kernel_rfl) ?_
 unfold IR.fi144
 simp only [envOf_cons,envOf_nil]
 refine Cw.seq (Cw.region ?_)
 iterate 2 (refine Ow.popM rfl ?_;simp only [S0,Nat.reduceEqDiff])
 refine Ow.nilM ⟨nofun,?_⟩
 refine Cw.seq (Cw.seq (Cw.region ?_))
 have c1:decide ((n:Int)<0)=false:=by simp
 have c2:decide ((n:Int) > 128)=false:=by simp;omega
 iterate 6 (refine Ow.popM rfl ?_;simp only [S0,Nat.reduceEqDiff,c1,c2])
 refine Ow.nilM ⟨nofun,?_⟩
 refine Cw.cond (t:=false) (by simp only [S0,Nat.reduceEqDiff]) ?_
 refine Cw.skip ?_
 refine Cw.seq (Cw.region ?_)
 (refine Ow.popM rfl ?_;simp only [S0,Nat.reduceEqDiff])
 refine Ow.nilM ⟨nofun,?_⟩
 refine Cw.seq (Cw.seq (Cw.region ?_))
 (refine Ow.popM rfl ?_;simp only [S0,Nat.reduceEqDiff])
 refine Ow.nilM ⟨nofun,?_⟩
 refine Cw.block (Cw.loopI n (fun k E H2=>(E.get 0=some (.int .i64 (x.fdiv (2^k)))∧E.get 1=some (.int .i64 (n:Int))∧E.get 7=some (.int .i64 (k:Int)))∧AL.Ext H H2∧∃ u,E.get 6=some u∧IsG H H2 u (ofI k x)) ⟨?_,AL.Ext.refl _,_,by simp only [S0,Nat.reduceEqDiff],.inl ⟨rfl,by simp [ofI]⟩⟩ ?_)
 ·simp only [S0,Nat.reduceEqDiff,Int.pow_zero,Int.fdiv_one];exact ⟨trivial,trivial,rfl⟩
 rintro k E H2 hk ⟨⟨e0,e1,e7⟩,hxt,u,e6,hu⟩
 refine Cw.seq (Cw.seq (Cw.region ?_))
 by_cases hlt:k<n
 ·iterate 3 (refine Ow.popM rfl ?_;simp only [S0,Nat.reduceEqDiff,e1,e7,lt_true hlt])
  refine Ow.nilM ⟨nofun,?_⟩
  refine Cw.cond (t:=true) (by simp only [S0,Nat.reduceEqDiff]) ?_
  refine Cw.skip ?_
  refine Cw.seq (Cw.block (Cw.seq (Cw.region ?_)))
  iterate 4 (refine Ow.popM rfl ?_;simp only [S0,Nat.reduceEqDiff,e0,e6,and1])
  (refine Ow.hopM rfl rfl ?_;simp only [S0,Nat.reduceEqDiff,S2,show Nat.ble 1 1=true from rfl])
  have hx4:AL.Ext H (H2.new ⟨[.bool (x.fdiv (2^k) % 2 == 1)],0⟩):=hxt.new _
  have hu4:IsG H (H2.new ⟨[.bool (x.fdiv (2^k) % 2 == 1)],0⟩) u (ofI k x):=hu.ext ((AL.Ext.refl _).new _)
  refine Ow.appB (H0:=H) rfl (by simp only [S0,Nat.reduceEqDiff]) (by simp only [S0,Nat.reduceEqDiff]) hu4 (lit1 _) hx4 (by simp [ofI_length];omega) ?_
  intro r H4 b hx5 hr
  (refine Ow.popM rfl ?_;simp only [S0,Nat.reduceEqDiff])
  refine Ow.nilM ⟨nofun,?_⟩
  show Cw _ _ _ _ _
  refine Cw.region ?_
  (refine Ow.popM rfl ?_;simp only [S0,Nat.reduceEqDiff,e0])
  (refine Ow.popM rfl ?_;simp only [S0,Nat.reduceEqDiff,aShift,show ¬ ((1:Int)<0) from by decide,show (2:Int)^Nat.min (Int.toNat 1) (IntKind.bits .i64)=2 from rfl,fdiv_succ])
  (refine Ow.popM rfl ?_;simp only [S0,Nat.reduceEqDiff])
  refine Ow.nilM ⟨nofun,?_⟩
  show Cw _ _ _ _ _
  refine Cw.region ?_
  iterate 3 (refine Ow.popM rfl ?_;simp only [S0,Nat.reduceEqDiff,e7,fw_succ (show k<2^62 by omega)])
  refine Ow.nilM ⟨nofun,hlt,?_,hx5,r,?_,?_⟩
  ·simp only [S0,Nat.reduceEqDiff,e1,and_self]
  ·simp only [S0,Nat.reduceEqDiff]
  ·rw [ofI_succ];exact hr
 ·obtain rfl:k=n:=by omega
  iterate 3 (refine Ow.popM rfl ?_;simp only [S0,Nat.reduceEqDiff,e1,e7,lt_false (Nat.lt_irrefl k)])
  refine Ow.nilM ⟨nofun,?_⟩
  refine Cw.cond (t:=false) (by simp only [S0,Nat.reduceEqDiff]) ?_
  refine Cw.exit ?_
  show Cw _ _ _ _ _
  refine Cw.seq (Cw.region ?_)
  iterate 3 (refine Ow.popM rfl ?_;simp only [S0,Nat.reduceEqDiff,e6])
  refine Ow.nilM ⟨nofun,?_⟩
  refine Cw.ret ?_
  simp only [Then,InBlock,Rnd,FnPost,resOf,tupled,S0,Nat.reduceEqDiff]
  exact ⟨hxt,_,rfl,hu⟩
end
section
open Go Go.AL
variable {ext:Nat→Option (List Value→AH→Option (Value×AH))}
end
section
open Go Go.AL
variable {ext:Nat→Option (List Value→AH→Option (Value×AH))}
def ng (l:List Bool):Bool:=bx l (l.length-1)
def absN (l:List Bool):Nat:=if ng l then 2^l.length-val l else val l
end
section
open Go Go.AL
def sval (l:List Bool):Int:=if ng l then -(absN l:Int) else absN l
variable {ext:Nat→Option (List Value→AH→Option (Value×AH))}
end
section
open Go Go.AL
variable {ext:Nat→Option (List Value→AH→Option (Value×AH))}
def Spo (H0 H:AH) (vs:List Value):Prop:=∀ v,v∈vs→v=.slice none 0 0∨∃ id off n cap bk,v=.slice (some ⟨id,off,none⟩) n cap∧H0.n≤id∧id<H.n∧H.t.get id=some bk∧bk.kind≠1∧off+n≤bk.cells.length∧n<2^62∧∀ c∈bk.cells,∃ b,c=.bool b
theorem Spo.nil (H0 H:AH):Spo H0 H []:=fun v h=>absurd h (by simp)
end
section
open Go Go.AL
variable {ext:Nat→Option (List Value→AH→Option (Value×AH))}
def preB (l:List Bool) (k:Nat):List Bool:=(List.range l.length).map fun i=>decide (i<k)&&bx l i
theorem preB_length (l:List Bool) (k:Nat):(preB l k).length=l.length:=by simp [preB]
theorem preB_zero (l:List Bool):preB l 0=List.replicate l.length false:=by
 apply List.ext_getElem?
 intro i
 by_cases h:i<l.length<;>simp [preB,h,List.getElem?_replicate]
theorem preB_full (l:List Bool):preB l l.length=l:=by
 refine ext_bits (preB_length _ _) (fun i hi=>?_)
 rw [preB_length] at hi
 simp [preB,bx,List.getD_eq_getElem?_getD,hi]
theorem preB_set {l:List Bool} {k:Nat} (h:k<l.length):(preB l k).set k (bx l k)=preB l (k+1):=by
 apply List.ext_getElem?
 intro i
 rw [List.getElem?_set]
 by_cases hik:k=i
 ·subst hik
  simp [preB,h]
 ·rw [if_neg hik]
  by_cases hi:i<l.length
  ·simp only [preB,List.getElem?_map,List.getElem?_range hi,Option.map_some]
   have:(i<k+1)↔(i<k):=by omega
   simp [this]
  ·simp [preB,hi]
theorem bx_ofI {n i:Nat} {x:Int} (h:i<n):bx (ofI n x) i=(x.fdiv (2^i) % 2 == 1):=by
 simp [bx,ofI,List.getD_eq_getElem?_getD,h]
theorem fdiv_big {x:Int} (h1:-9223372036854775808≤x) (h2:x≤9223372036854775807) {i:Nat} (hi:63≤i):x.fdiv (2^i)=x.fdiv (2^63):=by
 have hp:(2:Int)^63≤2^i:=by
  have:=Nat.pow_le_pow_right (n:=2) (by decide) hi
  exact_mod_cast this
 have h63:(2:Int)^63=9223372036854775808:=by decide
 rw [Int.fdiv_eq_ediv_of_nonneg _ (by omega),Int.fdiv_eq_ediv_of_nonneg _ (by omega)]
 generalize (2:Int)^i=p at *
 by_cases hx:0≤x
 ·rw [Int.ediv_eq_zero_of_lt hx (by omega),Int.ediv_eq_zero_of_lt hx (by omega)]
 ·have e:∀ q:Int,9223372036854775808≤q→x / q=-1:=by
   intro q hq
   have h3:=Int.emod_add_mul_ediv x q
   have h4:=Int.emod_nonneg x (b:=q) (by omega)
   have h5:=Int.emod_lt_of_pos x (b:=q) (by omega)
   have h6:x / q<0:=Int.ediv_neg_of_neg_of_pos (by omega) (by omega)
   have h7:-1≤x / q:=by
    rw [Int.le_ediv_iff_mul_le (by omega)]
    omega
   omega
  rw [e _ (by omega),e _ (by omega)]
theorem min63 (k:Nat):(if (63:Int)<(k:Int) then (63:Int) else (k:Int))=((min k 63:Nat):Int):=by split<;>omega
theorem shr_i64 {x:Int} {k:Nat} (h:k≤63):aShift .shr .i64 x (k:Int)=some (.int .i64 (x.fdiv (2^k))):=by
 unfold aShift
 rw [if_neg (by omega)]
 simp only [Int.toNat_natCast,show Nat.min k (IntKind.bits .i64)=k from Nat.min_eq_left (by show k≤64;omega)]
theorem fdiv_min {x:Int} (h1:-9223372036854775808≤x) (h2:x≤9223372036854775807) {n k:Nat} (h:k<n):(x.fdiv (2^min k 63) % 2 == 1)=bx (ofI n x) k:=by
 rw [bx_ofI h]
 by_cases hk:k≤63
 ·rw [Nat.min_eq_left hk]
 ·rw [Nat.min_eq_right (by omega),fdiv_big h1 h2 (show 63≤k by omega)]
theorem preB_full' {l:List Bool} {n:Nat} (h:l.length=n):preB l n=l:=by subst h;exact preB_full l
theorem bFromInt_any (hx:Ext0 ext) {H:AH} {n w:Int} (h1:-9223372036854775808≤n) (h2:n≤9223372036854775807) :
  Run (Cx ext) 103 [.int .i64 (n),.int .i64 (w)] H fun r H'=>AL.Ext H H'∧if w<0∨w > 128 then r=.tuple ⟨[.slice none 0 0,.int .i64 1]⟩ else ∃ v,r=.tuple ⟨[v,.int .i64 0]⟩∧IsR H H' v (ofI w.toNat n):=by
 refine Run.intro (fi:=IR.fi103) (hx 103 (by decide)) (by kernel_rfl) ?_
 unfold IR.fi103
 simp only [envOf_cons,envOf_nil]
 refine Cw.seq ?_
 refine Cw.region ?_
 iterate 2 (refine Ow.popM rfl ?_;simp only [S0,Nat.reduceEqDiff,S1])
 refine Ow.nilM ⟨nofun,?_⟩
 show Cw _ _ _ _ _
 refine Cw.seq ?_
 refine Cw.seq ?_
 refine Cw.region ?_
 iterate 3 (refine Ow.popM rfl ?_;simp only [S0,Nat.reduceEqDiff,S1])
 by_cases hq1:w<0
 ·have hd1:decide (w<0)=true:=decide_eq_true hq1
  refine Ow.pass (by simp only [S0,Nat.reduceEqDiff,S1,hd1]) ?_
  refine Ow.pass (by simp only [S0,Nat.reduceEqDiff,S1,hd1]) ?_
  (refine Ow.popM rfl ?_;simp only [S0,Nat.reduceEqDiff,S1,hd1])
  refine Ow.nilM ⟨nofun,?_⟩
  show Cw _ _ _ _ _
  refine Cw.cond (t:=true) (by simp only [S0,Nat.reduceEqDiff,S1,hd1]) ?_
  refine Cw.seq ?_
  refine Cw.region ?_
  iterate 2 (refine Ow.popM rfl ?_;simp only [S0,Nat.reduceEqDiff,S1,hd1])
  refine Ow.nilM ⟨nofun,?_⟩
  show Cw _ _ _ _ _
  refine Cw.ret ?_
  simp only [Then,InBlock,Rnd,FnPost,resOf,tupled,S0,Nat.reduceEqDiff,hd1]
  exact ⟨(AL.Ext.refl _),by rw [if_pos (by omega)];trivial⟩
 ·have hd1:decide (w<0)=false:=decide_eq_false hq1
  iterate 3 (refine Ow.popM rfl ?_;simp only [S0,Nat.reduceEqDiff,S1,hd1])
  refine Ow.nilM ⟨nofun,?_⟩
  show Cw _ _ _ _ _
  by_cases hq2:w > 128
  ·have hd2:decide (w > 128)=true:=decide_eq_true hq2
   refine Cw.cond (t:=true) (by simp only [S0,Nat.reduceEqDiff,S1,hd1,hd2]) ?_
   refine Cw.seq ?_
   refine Cw.region ?_
   iterate 2 (refine Ow.popM rfl ?_;simp only [S0,Nat.reduceEqDiff,S1,hd1,hd2])
   refine Ow.nilM ⟨nofun,?_⟩
   show Cw _ _ _ _ _
   refine Cw.ret ?_
   simp only [Then,InBlock,Rnd,FnPost,resOf,tupled,S0,Nat.reduceEqDiff,hd1,hd2]
   exact ⟨(AL.Ext.refl _),by rw [if_pos (by omega)];trivial⟩
  ·have hd2:decide (w > 128)=false:=decide_eq_false hq2
   refine Cw.cond (t:=false) (by simp only [S0,Nat.reduceEqDiff,S1,hd1,hd2]) ?_
   refine Cw.skip ?_
   show Cw _ _ _ _ _
   refine Cw.seq ?_
   refine Cw.region ?_
   (refine Ow.popM rfl ?_;simp only [S0,Nat.reduceEqDiff,S1,hd1,hd2])
   have hw:w=((w.toNat:Nat):Int):=by omega
   refine Ow.makeA (k:=.i64) (n:=w.toNat) rfl (by simp only [S0,Nat.reduceEqDiff,S1,hd1,hd2];rw [←hw]) (by omega) ?_
   intro H3 id3 hx3 hi3 m3
   (refine Ow.popM rfl ?_;simp only [S0,Nat.reduceEqDiff,S1,hd1,hd2])
   refine Ow.nilM ⟨nofun,?_⟩
   show Cw _ _ _ _ _
   refine Cw.seq ?_
   refine Cw.seq ?_
   refine Cw.region ?_
   (refine Ow.popM rfl ?_;simp only [S0,Nat.reduceEqDiff,S1,hd1,hd2])
   refine Ow.lenA rfl (by simp only [S0,Nat.reduceEqDiff,S1,hd1,hd2]) m3.isB ?_
   rw [List.length_replicate]
   (refine Ow.popM rfl ?_;simp only [S0,Nat.reduceEqDiff,S1,hd1,hd2])
   refine Ow.nilM ⟨nofun,?_⟩
   show Cw _ _ _ _ _
   refine Cw.block ?_
   refine Cw.loopI (w.toNat) (fun k E Hq=>(E.get 0=some (.int .i64 (n))∧E.get 1=some (.int .i64 (w))∧E.get 6=some (.slice (some ⟨id3,0,none⟩) (w.toNat) (w.toNat))∧E.get 17=some (.int .i64 ((w.toNat:Nat):Int))∧E.get 18=some (.int .i64 ((k:Nat):Int)))∧AL.Ext H Hq∧IsM Hq (.slice (some ⟨id3,0,none⟩) (w.toNat) (w.toNat)) (preB (ofI w.toNat n) k) id3) ⟨⟨(by simp only [S0,Nat.reduceEqDiff,S1,and_self,hd1,hd2]),(by simp only [S0,Nat.reduceEqDiff,S1,and_self,hd1,hd2]),(by simp only [S0,Nat.reduceEqDiff,S1,and_self,hd1,hd2]),(by simp only [S0,Nat.reduceEqDiff,S1,and_self,hd1,hd2]),(by simp only [S0,Nat.reduceEqDiff,eq_self,hd1,hd2]<;>first | rfl | simp [Nat.mod_one])⟩,hx3,(by rw [preB_zero,ofI_length];exact m3)⟩ ?_
   rintro k4 E4 H4 hk4 ⟨⟨g4_0,g4_1,g4_6,g4_17,g4_18⟩,hx4,m3⟩
   by_cases hlt4:k4<w.toNat
   ·skip
    refine Cw.seq ?_
    refine Cw.region ?_
    (refine Ow.popM rfl ?_;simp only [S0,Nat.reduceEqDiff,S1,show decide ((((k4:Nat):Int):Int)<(((w.toNat:Nat):Int):Int))=decide (k4<w.toNat) from lt_dec (k4) (w.toNat),show decide (k4<w.toNat)=true from decide_eq_true (hlt4),g4_0,g4_1,g4_6,g4_17,g4_18,hd1,hd2])
    refine Ow.nilM ⟨nofun,?_⟩
    show Cw _ _ _ _ _
    refine Cw.seq ?_
    refine Cw.cond (t:=true) (by simp only [S0,Nat.reduceEqDiff,S1,g4_0,g4_1,g4_6,g4_17,g4_18,hd1,hd2]) ?_
    refine Cw.skip ?_
    show Cw _ _ _ _ _
    refine Cw.seq ?_
    refine Cw.block ?_
    refine Cw.seq ?_
    refine Cw.region ?_
    iterate 2 (refine Ow.popM rfl ?_;simp only [S0,Nat.reduceEqDiff,S1,g4_0,g4_1,g4_6,g4_17,g4_18,hd1,hd2])
    refine Ow.nilM ⟨nofun,?_⟩
    show Cw _ _ _ _ _
    refine Cw.region ?_
    iterate 5 (refine Ow.popM rfl ?_;simp only [S0,Nat.reduceEqDiff,S1,AL.foldV,amin2,min63,g4_0,g4_1,g4_6,g4_17,g4_18,hd1,hd2])
    (refine Ow.popM rfl ?_;simp only [S0,Nat.reduceEqDiff,S1,shr_i64 (x:=n) (show min k4 63≤63 by omega),g4_0,g4_1,g4_6,g4_17,g4_18,hd1,hd2])
    (refine Ow.popM rfl ?_;simp only [S0,Nat.reduceEqDiff,S1,and1,g4_0,g4_1,g4_6,g4_17,g4_18,hd1,hd2])
    (refine Ow.popM rfl ?_;simp only [S0,Nat.reduceEqDiff,S1,fdiv_min h1 h2 (show k4<w.toNat by omega),g4_0,g4_1,g4_6,g4_17,g4_18,hd1,hd2])
    (refine Ow.popM rfl ?_;simp only [S0,Nat.reduceEqDiff,S1,ix_ok (show k4<(w.toNat) by omega),g4_0,g4_1,g4_6,g4_17,g4_18,hd1,hd2])
    refine Ow.storeA (H0:=H) (j:=k4) (bb:=bx (ofI w.toNat n) k4) rfl (by simp only [S0,Nat.reduceEqDiff,S1,g4_0,g4_1,g4_6,g4_17,g4_18,hd1,hd2]) (by simp only [S0,Nat.reduceEqDiff,S1,g4_0,g4_1,g4_6,g4_17,g4_18,hd1,hd2]) m3 (by rw [preB_length,ofI_length];omega) hx4 hi3 ?_
    intro H5 b5 hx5 hn5 hk5 m3_5
    rw [preB_set (show k4<(ofI w.toNat n).length by rw [ofI_length];omega)] at m3_5
    refine Ow.nilM ⟨nofun,?_⟩
    show Cw _ _ _ _ _
    refine Cw.region ?_
    iterate 2 (refine Ow.popM rfl ?_;simp only [S0,Nat.reduceEqDiff,S1,show fwrap .i64 ((((k4:Nat):Int):Int)+(1:Int))=((k4+1:Nat):Int) from add_nat (a:=k4) (b:=1) (by omega),g4_0,g4_1,g4_6,g4_17,g4_18,hd1,hd2])
    refine Ow.nilM ⟨nofun,?_⟩
    exact ⟨hlt4,⟨(by simp only [S0,Nat.reduceEqDiff,S1,and_self,g4_0,g4_1,g4_6,g4_17,g4_18,hd1,hd2]),(by simp only [S0,Nat.reduceEqDiff,S1,and_self,g4_0,g4_1,g4_6,g4_17,g4_18,hd1,hd2]),(by simp only [S0,Nat.reduceEqDiff,S1,and_self,g4_0,g4_1,g4_6,g4_17,g4_18,hd1,hd2]),(by simp only [S0,Nat.reduceEqDiff,S1,and_self,g4_0,g4_1,g4_6,g4_17,g4_18,hd1,hd2]),(by simp only [S0,Nat.reduceEqDiff,S1,and_self,g4_0,g4_1,g4_6,g4_17,g4_18,hd1,hd2]<;>rfl)⟩,hx5,m3_5⟩
   ·obtain rfl:w.toNat=k4:=by omega
    have hfin:=m3
    rw [preB_full' (ofI_length _ _)] at hfin
    refine Cw.seq ?_
    refine Cw.region ?_
    (refine Ow.popM rfl ?_;simp only [S0,Nat.reduceEqDiff,S1,show decide ((((w.toNat:Nat):Int):Int)<(((w.toNat:Nat):Int):Int))=decide (w.toNat<w.toNat) from lt_dec (w.toNat) (w.toNat),show decide (w.toNat<w.toNat)=false from decide_eq_false (Nat.lt_irrefl _),g4_0,g4_1,g4_6,g4_17,g4_18,hd1,hd2])
    refine Ow.nilM ⟨nofun,?_⟩
    show Cw _ _ _ _ _
    refine Cw.seq ?_
    refine Cw.cond (t:=false) (by simp only [S0,Nat.reduceEqDiff,S1,g4_0,g4_1,g4_6,g4_17,g4_18,hd1,hd2]) ?_
    refine Cw.exit ?_
    show Cw _ _ _ _ _
    refine Cw.seq ?_
    refine Cw.region ?_
    iterate 3 (refine Ow.popM rfl ?_;simp only [S0,Nat.reduceEqDiff,S1,g4_0,g4_1,g4_6,g4_17,g4_18,hd1,hd2])
    refine Ow.nilM ⟨nofun,?_⟩
    show Cw _ _ _ _ _
    refine Cw.ret ?_
    simp only [Then,InBlock,Rnd,FnPost,resOf,tupled,S0,Nat.reduceEqDiff,g4_0,g4_1,g4_6,g4_17,g4_18,hd1,hd2]
    exact ⟨hx4,by rw [if_neg (by omega)];exact ⟨_,rfl,hfin.isR hi3⟩⟩
theorem rFromInt_any (hx:Ext0 ext) {H:AH} {n w:Int} :
  Run (Cx ext) 144 [.int .i64 n,.int .i64 w] H fun r H'=>AL.Ext H H'∧if w<0∨w > 128 then r=.tuple ⟨[.slice none 0 0,.int .i64 1]⟩ else ∃ v,r=.tuple ⟨[v,.int .i64 0]⟩∧IsR H H' v (ofI w.toNat n):=by
 by_cases hw:w<0∨w > 128
 ·simp only [if_pos hw]
  refine Run.intro (fi:=IR.fi144) (hx 144 (by decide)) (by kernel_rfl) ?_
  unfold IR.fi144
  simp only [envOf_cons,envOf_nil]
  refine Cw.seq (Cw.region ?_)
  iterate 2 (refine Ow.popM rfl ?_;simp only [S0,Nat.reduceEqDiff])
  refine Ow.nilM ⟨nofun,?_⟩
  refine Cw.seq (Cw.seq (Cw.region ?_))
  have fin:∀ E,E.get 13=some (.bool true)→Cw (Cx ext) (match IR.fi144.code with | .seq _ (.seq (.seq _ c) _)=>c | _=>.skip) E H fun c E' H'=>c=.ret∧H'=H∧E'.get 4=some (.slice none 0 0)∧E'.get 5=some (.int .i64 1):=by
   intro E h
   unfold IR.fi144
   refine Cw.cond (t:=true) (by simp only [S0,Nat.reduceEqDiff,h]) ?_
   refine Cw.seq (Cw.region ?_)
   iterate 2 (refine Ow.popM rfl ?_;simp only [S0,Nat.reduceEqDiff])
   refine Ow.nilM ⟨nofun,?_⟩
   refine Cw.ret ⟨rfl,rfl,?_,?_⟩<;>simp only [S0,Nat.reduceEqDiff]
  have done:∀ (c:Ctl) (E':Env) (H':AH) (b:IC),(c=.ret∧H'=H∧E'.get 4=some (.slice none 0 0)∧E'.get 5=some (.int .i64 1))→Then (Cx ext) b (FnPost [.tmp 4,.tmp 5] fun r H'=>AL.Ext H H'∧r=.tuple ⟨[.slice none 0 0,.int .i64 1]⟩) c E' H':=by
   rintro c E' H' b ⟨rfl,rfl,h4,h5⟩
   simp only [Then,FnPost,resOf,tupled,S0,Nat.reduceEqDiff,h4,h5]
   exact ⟨AL.Ext.refl _,trivial⟩
  by_cases h0:w<0
  ·have c1:decide (w<0)=true:=decide_eq_true h0
   iterate 3 (refine Ow.popM rfl ?_;simp only [S0,Nat.reduceEqDiff,c1])
   iterate 2 refine Ow.pass (by simp only [S0,Nat.reduceEqDiff]) ?_
   (refine Ow.popM rfl ?_;simp only [S0,Nat.reduceEqDiff])
   refine Ow.nilM ⟨nofun,?_⟩
   exact (fin _ (by simp only [S0,Nat.reduceEqDiff])).mono fun c E' H' h=>done c E' H' _ h
  ·have c1:decide (w<0)=false:=decide_eq_false h0
   have c2:decide (w > 128)=true:=decide_eq_true (by omega)
   iterate 6 (refine Ow.popM rfl ?_;simp only [S0,Nat.reduceEqDiff,c1,c2])
   refine Ow.nilM ⟨nofun,?_⟩
   exact (fin _ (by simp only [S0,Nat.reduceEqDiff])).mono fun c E' H' h=>done c E' H' _ h
 ·simp only [if_neg hw]
  have e:w=((w.toNat:Nat):Int):=by omega
  have h:=FromInt_any hx (H:=H) (x:=n) (n:=w.toNat) (by omega)
  rw [←e] at h
  exact h.mono fun r H' hr=>⟨hr.1,by obtain ⟨v,h1,h2⟩:=hr.2;exact ⟨v,h1,h2.isR⟩⟩
end
section
open Go Go.AL
variable {ext:Nat→Option (List Value→AH→Option (Value×AH))}
def intV (l:List Bool):Value:=if -(2:Int)^63≤sval l∧sval l<(2:Int)^63 then .tuple ⟨[.int .i64 (sval l),.bool true]⟩ else .tuple ⟨[.int .i64 0,.bool false]⟩
theorem fw64 {x:Int} (h1:-(2^63)≤x) (h2:x<2^63):fwrap .i64 x=x:=by
 rw [fwrap_eq]
 unfold IntKind.wrap
 simp only [show IntKind.bits .i64=64 from rfl,show IntKind.signed .i64=true from rfl,Bool.true_and,decide_eq_true_eq,Nat.reduceSub]
 split<;>omega
end
section
open Go Go.AL
def Sg (w:Nat) (m:Int):Prop:=1≤w∧w≤64∧-(2:Int)^(w-1)≤m∧m<(2:Int)^(w-1)
theorem p2 (w:Nat):((2^w:Nat):Int)=(2:Int)^w:=by push_cast;rfl
variable {w:Nat} {m n:Int}
end
end Go.Proofs.YtdgbdkfoeaollaaGreatDoor.X
