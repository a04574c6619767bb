/- Contracts of the two-state vectors' functions (written for another seat, turned to this one by program). -/
import Derived.Test.YtdgbdkfoeaollaaDoorIR
import Derived.Test.YtdgbdkfoeaollaaDoorALe
set_option linter.unusedSimpArgs false
set_option linter.unusedVariables false
namespace Go.Proofs.YtdgbdkfoeaollaaDoor.X
section
open Go Go.AL
def bx (l : List Bool) (i : Nat) : Bool := l.getD i false
theorem bx_lt {l : List Bool} {n : Nat} (h : n < l.length) : l[n]? = some (bx l n) := by simp [bx, List.getD_eq_getElem?_getD, h]
theorem bx_ge {l : List Bool} {n : Nat} (h : ¬ n < l.length) : bx l n = false := by simp [bx, List.getD_eq_getElem?_getD, List.getElem?_eq_none (Nat.le_of_not_lt h)]
variable {ext : Nat → Option (List Value → AH → Option (Value × AH))}
abbrev Cx (ext : Nat → Option (List Value → AH → Option (Value × AH))) : Ctx := ⟨IR.ft, ext⟩
/-- Only awake is told from without. -/
def Ext0 (ext : Nat → Option (List Value → AH → Option (Value × AH))) : Prop := ∀ f, (f ≠ 15 ∧ f ≠ 8) → ext f = none
end
section
open Go Go.AL
/-- The number that a vector stands for. -/
def val : List Bool → Nat
  | [] => 0
  | b :: r => b.toNat + 2 * val r
/-- The lowest n bits of a number. -/
def ofN (n x : Nat) : List Bool := (List.range n).map fun i => x.testBit i
theorem ofN_length (n x : Nat) : (ofN n x).length = n := by simp [ofN]
theorem val_bit : ∀ (l : List Bool) (i : Nat), (val l).testBit i = bx l i
  | [], i => by simp [val, bx]
  | b :: r, 0 => by
    unfold val bx
    simp [Nat.testBit_zero]
    cases b <;> simp <;> omega
  | b :: r, i + 1 => by
    have h := val_bit r i
    unfold val
    have e : (b.toNat + 2 * val r) / 2 = val r := by cases b <;> simp <;> omega
    rw [Nat.testBit_succ, e, h]
    simp [bx]
theorem val_lt : ∀ (l : List Bool), val l < 2 ^ l.length
  | [] => by simp [val]
  | b :: r => by
    have h := val_lt r
    unfold val
    simp only [List.length_cons, Nat.pow_succ]
    cases b <;> simp <;> omega
end
section
open Go Go.AL
variable {ext : Nat → Option (List Value → AH → Option (Value × AH))}
section
variable {C : Ctx} {E : Env} {H : AH} {d : Option Nat} {g : Option (Nat × Bool)} {os : List IOper} {Q : Env → AH → List (Bool × Bool) → Prop}
end
end
section
open Go Go.AL
variable {ext : Nat → Option (List Value → AH → Option (Value × AH))}
theorem wrap_small {x : Nat} (h : x < 2 ^ 63) : IntKind.wrap .i64 (x : Int) = (x : Int) := by
  have e : (x : Int) % 2 ^ 64 = x := Int.emod_eq_of_lt (by omega) (by omega)
  unfold IntKind.wrap
  simp only [show IntKind.bits .i64 = 64 from rfl, show IntKind.signed .i64 = true from rfl, e, Bool.true_and, decide_eq_true_eq, Nat.reduceSub]
  rw [if_neg (by omega)]
/-- The lowest n bits of an integer. -/
def ofI (n : Nat) (x : Int) : List Bool := (List.range n).map fun i => x.fdiv (2 ^ i) % 2 == 1
theorem ofI_length (n : Nat) (x : Int) : (ofI n x).length = n := by simp [ofI]
end
section
open Go Go.AL
variable {ext : Nat → Option (List Value → AH → Option (Value × AH))}
theorem gt0_true {n : Nat} (h : 0 < n) : decide ((n : Int) > 0) = true := by simp; omega
end
section
open Go Go.AL
variable {ext : Nat → Option (List Value → AH → Option (Value × AH))}
theorem fw_nat {a : Nat} (h : a < 2 ^ 63) : fwrap .i64 (a : Int) = (a : Int) := by
  unfold fwrap
  have : inKind .i64 (a : Int) = true := by
    show Nat.blt a 9223372036854775808 = true
    exact Nat.ble_eq_true_of_le (by omega)
  rw [this]; rfl
/-! ## By their numbers -/
end
section
open Go Go.AL
variable {ext : Nat → Option (List Value → AH → Option (Value × AH))}
/-- bv.negative -/
theorem negative_any (hx : Ext0 ext) {H : AH} {v : Value} {l : List Bool} (hv : IsB H v l) (hl : l.length < 2 ^ 36) : Run (Cx ext) 94 [v] H fun r H' => H' = H ∧ r = .bool (bx l (l.length - 1)) := by
  refine Run.intro (fi := IR.fi94) (hx 94 (by decide)) (by kernel_rfl) ?_
  unfold IR.fi94
  simp only [envOf_cons, envOf_nil]
  refine Cw.seq (Cw.region ?_)
  (refine Ow.popM rfl ?_; simp only [S0, Nat.reduceEqDiff, Nat.reduceAdd, reduceIte, reduceCtorEq])
  refine Ow.nilM ⟨nofun, ?_⟩
  refine Cw.seq (Cw.region ?_)
  by_cases h0 : 0 < l.length
  · obtain ⟨ad, cap, bk, rfl, h1, h2, h3⟩ := hv.at (bx_lt (show l.length - 1 < l.length by omega))
    have e : (l.length : Int) - 1 = ((l.length - 1 : Nat) : Int) := by omega
    iterate 9 (refine Ow.popM rfl ?_; simp only [S0, Nat.reduceEqDiff, Nat.reduceAdd, reduceIte, reduceCtorEq, gt0_true h0, e, fw_nat (show l.length - 1 < 2 ^ 63 by omega), ix_ok (show l.length - 1 < l.length by omega)])
    (refine Ow.hopM rfl rfl ?_; simp only [S0, Nat.reduceEqDiff, Nat.reduceAdd, reduceIte, reduceCtorEq, h2, h3])
    iterate 2 (refine Ow.popM rfl ?_; simp only [S0, Nat.reduceEqDiff, Nat.reduceAdd, reduceIte, reduceCtorEq])
    refine Ow.nilM ⟨nofun, ?_⟩
    refine Cw.ret ?_
    simp only [Then, InBlock, Rnd, FnPost, resOf, tupled, S0, Nat.reduceEqDiff, Nat.reduceAdd, reduceIte, reduceCtorEq, and_self]
  · have hz : l = [] := List.length_eq_zero_iff.1 (by omega)
    subst hz
    obtain ⟨a, cap, rfl⟩ := hv.shape
    iterate 4 (refine Ow.popM rfl ?_; simp only [S0, Nat.reduceEqDiff, Nat.reduceAdd, reduceIte, reduceCtorEq, show decide ((([] : List Bool).length : Int) > 0) = false from rfl])
    iterate 6 refine Ow.pass (by simp only [S0, Nat.reduceEqDiff, Nat.reduceAdd, reduceIte, reduceCtorEq]) ?_
    iterate 2 (refine Ow.popM rfl ?_; simp only [S0, Nat.reduceEqDiff, Nat.reduceAdd, reduceIte, reduceCtorEq])
    refine Ow.nilM ⟨nofun, ?_⟩
    refine Cw.ret ?_
    simp only [Then, InBlock, Rnd, FnPost, resOf, tupled, S0, Nat.reduceEqDiff, Nat.reduceAdd, reduceIte, reduceCtorEq, true_and]
    rfl
end
section
open Go Go.AL
variable {ext : Nat → Option (List Value → AH → Option (Value × AH))}
/-- What right answers. -/
def shrF (la : List Bool) (s : Nat) (fill : Bool) : List Bool := (List.range la.length).map fun i => if i + s < la.length then bx la (i + s) else fill
theorem shrF_length (la : List Bool) (s : Nat) (fill : Bool) : (shrF la s fill).length = la.length := by simp [shrF]
end
section
open Go Go.AL
variable {ext : Nat → Option (List Value → AH → Option (Value × AH))}
/-- The last bit. -/
def ng (l : List Bool) : Bool := bx l (l.length - 1)
/-- The absolute value. -/
def absN (l : List Bool) : Nat := if ng l then 2 ^ l.length - val l else val l
/-- What SDivMod answers. -/
def squo (la lb : List Bool) : List Bool := ofN la.length (if ng la != ng lb then 2 ^ la.length - (absN la / absN lb) % 2 ^ la.length else absN la / absN lb)
def srem (la lb : List Bool) : List Bool := ofN la.length (if ng la then 2 ^ la.length - (absN la % absN lb) % 2 ^ la.length else absN la % absN lb)
end
section
open Go Go.AL
theorem ng_nil {l : List Bool} (h : l.length = 0) : ng l = false := by
  unfold ng
  exact bx_ge (by omega)
/-- The signed value. -/
def sval (l : List Bool) : Int := if ng l then -(absN l : Int) else absN l
theorem srem_length (la lb : List Bool) : (srem la lb).length = la.length := by unfold srem; exact ofN_length _ _
theorem squo_length (la lb : List Bool) : (squo la lb).length = la.length := by unfold squo; exact ofN_length _ _
/-- The divisor, extended by its sign or shortened. -/
def extS (l : List Bool) (n : Nat) : List Bool := (List.range n).map fun i => if i < l.length then bx l i else ng l
theorem extS_length (l : List Bool) (n : Nat) : (extS l n).length = n := by simp [extS]
/-- Lengths. -/
theorem SL : type_of% (And.intro ofN_length <| And.intro ofI_length <| And.intro shrF_length <| And.intro squo_length <| And.intro srem_length <| And.intro extS_length <| And.intro @List.length_append.{0} <| And.intro @List.length_replicate.{0} <| And.intro @List.length_cons.{0} <| @List.length_nil.{0}) := And.intro ofN_length <| And.intro ofI_length <| And.intro shrF_length <| And.intro squo_length <| And.intro srem_length <| And.intro extS_length <| And.intro @List.length_append.{0} <| And.intro @List.length_replicate.{0} <| And.intro @List.length_cons.{0} <| @List.length_nil.{0}
variable {ext : Nat → Option (List Value → AH → Option (Value × AH))}
end
section
open Go Go.AL
variable {ext : Nat → Option (List Value → AH → Option (Value × AH))}
theorem wrap_u64 (x : Nat) : IntKind.wrap .u64 (x : Int) = ((x % 2 ^ 64 : Nat) : Int) := by
  have e : IntKind.wrap .u64 (x : Int) = (x : Int) % (2 : Int) ^ 64 := rfl
  rw [e]
  omega
theorem shl_u64 {k : Nat} (h : k < 64) : aShift .shl .u64 1 (k : Int) = some (.int .u64 ((2 ^ k : Nat) : Int)) := by
  unfold aShift
  rw [if_neg (by omega)]
  simp only [Int.toNat_natCast, show Nat.min k (IntKind.bits .u64) = k from Nat.min_eq_left (by show k ≤ 64; omega), Int.one_mul]
  have e : ((2 : Int) ^ k) = ((2 ^ k : Nat) : Int) := by push_cast; rfl
  rw [e, wrap_u64, Nat.mod_eq_of_lt (Nat.pow_lt_pow_right (by decide) h)]
theorem or_bit {X k : Nat} (hX : X < 2 ^ k) : X ||| 2 ^ k = X + 2 ^ k := by
  have h := Nat.two_pow_add_eq_or_of_lt hX 1
  rw [Nat.mul_one] at h
  rw [Nat.or_comm, ← h, Nat.add_comm]
theorem or_u64 {X k : Nat} (hX : X < 2 ^ k) (hk : k < 64) : IntKind.wrap .u64 ((BitVec.ofInt (IntKind.bits .u64) (X : Int) ||| BitVec.ofInt (IntKind.bits .u64) ((2 ^ k : Nat) : Int)).toNat : Int) = ((X + 2 ^ k : Nat) : Int) := by
  have h64 : 2 ^ k < 2 ^ 64 := Nat.pow_lt_pow_right (by decide) hk
  have h2 : 2 ^ k + 2 ^ k ≤ 2 ^ 64 := by
    have : 2 ^ (k + 1) ≤ 2 ^ 64 := Nat.pow_le_pow_right (by decide) hk
    rw [Nat.pow_succ] at this
    omega
  have e : (BitVec.ofInt 64 (X : Int) ||| BitVec.ofInt 64 ((2 ^ k : Nat) : Int)).toNat = X + 2 ^ k := by
    rw [BitVec.toNat_or, BitVec.ofInt_natCast, BitVec.ofInt_natCast, BitVec.toNat_ofNat, BitVec.toNat_ofNat, Nat.mod_eq_of_lt (by omega), Nat.mod_eq_of_lt h64, or_bit hX]
  rw [show IntKind.bits .u64 = 64 from rfl, e, wrap_u64, Nat.mod_eq_of_lt (by omega)]
theorem mod_bit (X k : Nat) : X % 2 ^ (k + 1) = X % 2 ^ k + 2 ^ k * (X.testBit k).toNat := by
  rw [Nat.mod_pow_succ]
  congr 1
  rw [Nat.testBit_eq_decide_div_mod_eq]
  rcases Nat.mod_two_eq_zero_or_one (X / 2 ^ k) with h | h <;> rw [h] <;> simp
theorem bit_ge {X k : Nat} (h : X.testBit k = true) : 2 ^ k ≤ X := by
  rcases Nat.lt_or_ge X (2 ^ k) with h1 | h1
  · rw [Nat.testBit_lt_two_pow h1] at h; cases h
  · exact h1
theorem mod_64 {X k : Nat} (h : k < 64) : X % 2 ^ (k + 1) < 2 ^ 64 := Nat.lt_of_lt_of_le (Nat.mod_lt _ (Nat.two_pow_pos _)) (Nat.pow_le_pow_right (by decide) h)
/-- What Uint answers. -/
def uintV (l : List Bool) : Value := if val l < 2 ^ 64 then .tuple ⟨[.int .u64 ((val l : Nat) : Int), .bool true]⟩ else .tuple ⟨[.int .u64 0, .bool false]⟩
/-- bv.Uint -/
theorem bUint_any (hx : Ext0 ext) {H : AH} {va : Value} {la : List Bool} (fa : IsB H va la) (hla : la.length < 2 ^ 34) :
    Run (Cx ext) 56 [va] H fun r H' => AL.Ext H H' ∧ r = uintV la := by
  refine Run.intro (fi := IR.fi56) (hx 56 (by decide)) (by kernel_rfl) ?_
  unfold IR.fi56
  simp only [envOf_cons, envOf_nil]
  refine Cw.seq ?_
  refine Cw.region ?_
  iterate 2 (refine Ow.popM rfl ?_; simp only [S0, Nat.reduceEqDiff, Nat.reduceAdd, reduceIte, reduceCtorEq, S1])
  refine Ow.nilM ⟨nofun, ?_⟩
  show Cw _ _ _ _ _
  refine Cw.seq ?_
  refine Cw.seq ?_
  refine Cw.region ?_
  (refine Ow.popM rfl ?_; simp only [S0, Nat.reduceEqDiff, Nat.reduceAdd, reduceIte, reduceCtorEq, S1])
  refine Ow.lenA rfl (by simp only [S0, Nat.reduceEqDiff, Nat.reduceAdd, reduceIte, reduceCtorEq, S1]) fa ?_
  (refine Ow.popM rfl ?_; simp only [S0, Nat.reduceEqDiff, Nat.reduceAdd, reduceIte, reduceCtorEq, S1])
  refine Ow.nilM ⟨nofun, ?_⟩
  show Cw _ _ _ _ _
  refine Cw.block ?_
  refine Cw.loopI (la.length) (fun k E Hq => (E.get 6 = some (va) ∧ E.get 7 = some (.int .i64 ((la.length : Nat) : Int)) ∧ E.get 8 = some (.int .i64 ((k : Nat) : Int)) ∧ E.get 2 = some (.int .u64 (((val la % 2 ^ k : Nat) : Int)))) ∧ AL.Ext H Hq ∧ val la % 2 ^ k < 2 ^ 64) ⟨⟨(by simp only [S0, Nat.reduceEqDiff, Nat.reduceAdd, reduceIte, reduceCtorEq, S1, and_self]), (by simp only [S0, Nat.reduceEqDiff, Nat.reduceAdd, reduceIte, reduceCtorEq, S1, and_self]), (by simp only [S0, Nat.reduceEqDiff, Nat.reduceAdd, reduceIte, reduceCtorEq, eq_self] <;> first | rfl | simp [Nat.mod_one]), (by simp only [S0, Nat.reduceEqDiff, Nat.reduceAdd, reduceIte, reduceCtorEq, eq_self] <;> first | rfl | simp [Nat.mod_one])⟩, (AL.Ext.refl _), (by rw [Nat.pow_zero, Nat.mod_one]; decide)⟩ ?_
  rintro k1 E1 H1 hk1 ⟨⟨g1_6, g1_7, g1_8, g1_2⟩, hx1, hsm⟩
  by_cases hlt1 : k1 < la.length
  · skip
    refine Cw.seq ?_
    refine Cw.region ?_
    (refine Ow.popM rfl ?_; simp only [S0, Nat.reduceEqDiff, Nat.reduceAdd, reduceIte, reduceCtorEq, S1, show decide ((((k1 : Nat) : Int) : Int) < (((la.length : Nat) : Int) : Int)) = decide (k1 < la.length) from lt_dec (k1) (la.length), show decide (k1 < la.length) = true from decide_eq_true (hlt1), g1_6, g1_7, g1_8, g1_2])
    refine Ow.nilM ⟨nofun, ?_⟩
    show Cw _ _ _ _ _
    refine Cw.seq ?_
    refine Cw.cond (t := true) (by simp only [S0, Nat.reduceEqDiff, Nat.reduceAdd, reduceIte, reduceCtorEq, S1, g1_6, g1_7, g1_8, g1_2]) ?_
    refine Cw.skip ?_
    show Cw _ _ _ _ _
    refine Cw.seq ?_
    refine Cw.block ?_
    refine Cw.seq ?_
    refine Cw.region ?_
    (refine Ow.popM rfl ?_; simp only [S0, Nat.reduceEqDiff, Nat.reduceAdd, reduceIte, reduceCtorEq, S1, g1_6, g1_7, g1_8, g1_2])
    have fa_2 := fa.ext hx1
    refine Ow.rdA (k := .i64) (b := bx la (k1)) (n := k1) rfl (fun p => rfl) (by simp only [S0, Nat.reduceEqDiff, Nat.reduceAdd, reduceIte, reduceCtorEq, S1, g1_6, g1_7, g1_8, g1_2]) (by simp only [S0, Nat.reduceEqDiff, Nat.reduceAdd, reduceIte, reduceCtorEq, S1, g1_6, g1_7, g1_8, g1_2]) fa_2 (bx_lt (by omega)) ?_
    intro p3
    iterate 2 (refine Ow.popM rfl ?_; simp only [S0, Nat.reduceEqDiff, Nat.reduceAdd, reduceIte, reduceCtorEq, S1, g1_6, g1_7, g1_8, g1_2])
    refine Ow.nilM ⟨nofun, ?_⟩
    show Cw _ _ _ _ _
    refine Cw.seq ?_
    refine Cw.seq ?_
    refine Cw.region ?_
    iterate 2 (refine Ow.popM rfl ?_; simp only [S0, Nat.reduceEqDiff, Nat.reduceAdd, reduceIte, reduceCtorEq, S1, g1_6, g1_7, g1_8, g1_2])
    cases hd4 : (bx la (k1))
    · skip
      refine Ow.pass (by simp only [S0, Nat.reduceEqDiff, Nat.reduceAdd, reduceIte, reduceCtorEq, S1, g1_6, g1_7, g1_8, g1_2, hd4]) ?_
      refine Ow.pass (by simp only [S0, Nat.reduceEqDiff, Nat.reduceAdd, reduceIte, reduceCtorEq, S1, g1_6, g1_7, g1_8, g1_2, hd4]) ?_
      (refine Ow.popM rfl ?_; simp only [S0, Nat.reduceEqDiff, Nat.reduceAdd, reduceIte, reduceCtorEq, S1, g1_6, g1_7, g1_8, g1_2, hd4])
      refine Ow.nilM ⟨nofun, ?_⟩
      show Cw _ _ _ _ _
      refine Cw.cond (t := false) (by simp only [S0, Nat.reduceEqDiff, Nat.reduceAdd, reduceIte, reduceCtorEq, S1, g1_6, g1_7, g1_8, g1_2, hd4]) ?_
      refine Cw.skip ?_
      show Cw _ _ _ _ _
      refine Cw.seq ?_
      refine Cw.region ?_
      (refine Ow.popM rfl ?_; simp only [S0, Nat.reduceEqDiff, Nat.reduceAdd, reduceIte, reduceCtorEq, S1, g1_6, g1_7, g1_8, g1_2, hd4])
      refine Ow.nilM ⟨nofun, ?_⟩
      show Cw _ _ _ _ _
      refine Cw.cond (t := false) (by simp only [S0, Nat.reduceEqDiff, Nat.reduceAdd, reduceIte, reduceCtorEq, S1, g1_6, g1_7, g1_8, g1_2, hd4]) ?_
      refine Cw.skip ?_
      show Cw _ _ _ _ _
      refine Cw.region ?_
      iterate 2 (refine Ow.popM rfl ?_; simp only [S0, Nat.reduceEqDiff, Nat.reduceAdd, reduceIte, reduceCtorEq, S1, show fwrap .i64 ((((k1 : Nat) : Int) : Int) + (1 : Int)) = ((k1 + 1 : Nat) : Int) from add_nat (a := k1) (b := 1) (by omega), g1_6, g1_7, g1_8, g1_2, hd4])
      refine Ow.nilM ⟨nofun, ?_⟩
      have e5 : val la % 2 ^ (k1 + 1) = val la % 2 ^ k1 := by rw [mod_bit, val_bit, hd4]; simp
      exact ⟨hlt1, ⟨(by simp only [S0, Nat.reduceEqDiff, Nat.reduceAdd, reduceIte, reduceCtorEq, S1, and_self, g1_6, g1_7, g1_8, g1_2, hd4, e5]), (by simp only [S0, Nat.reduceEqDiff, Nat.reduceAdd, reduceIte, reduceCtorEq, S1, and_self, g1_6, g1_7, g1_8, g1_2, hd4, e5]), (by simp only [S0, Nat.reduceEqDiff, Nat.reduceAdd, reduceIte, reduceCtorEq, S1, and_self, g1_6, g1_7, g1_8, g1_2, hd4, e5] <;> rfl), (by simp only [S0, Nat.reduceEqDiff, Nat.reduceAdd, reduceIte, reduceCtorEq, S1, and_self, g1_6, g1_7, g1_8, g1_2, hd4, e5] <;> rfl)⟩, hx1, (by rw [e5]; exact hsm)⟩
    · skip
      iterate 3 (refine Ow.popM rfl ?_; simp only [S0, Nat.reduceEqDiff, Nat.reduceAdd, reduceIte, reduceCtorEq, S1, show decide ((((k1 : Nat) : Int) : Int) ≥ (64 : Int)) = decide (64 ≤ k1) from ge_dec (k1) (64), g1_6, g1_7, g1_8, g1_2, hd4])
      refine Ow.nilM ⟨nofun, ?_⟩
      show Cw _ _ _ _ _
      by_cases hq6 : 64 ≤ k1
      · have hd6 : decide (64 ≤ k1) = true := decide_eq_true hq6
        refine Cw.cond (t := true) (by simp only [S0, Nat.reduceEqDiff, Nat.reduceAdd, reduceIte, reduceCtorEq, S1, g1_6, g1_7, g1_8, g1_2, hd4, hd6]) ?_
        refine Cw.seq ?_
        refine Cw.region ?_
        iterate 2 (refine Ow.popM rfl ?_; simp only [S0, Nat.reduceEqDiff, Nat.reduceAdd, reduceIte, reduceCtorEq, S1, g1_6, g1_7, g1_8, g1_2, hd4, hd6])
        refine Ow.nilM ⟨nofun, ?_⟩
        show Cw _ _ _ _ _
        refine Cw.ret ?_
        simp only [Then, InBlock, Rnd, FnPost, resOf, tupled, S0, Nat.reduceEqDiff, Nat.reduceAdd, reduceIte, reduceCtorEq, g1_6, g1_7, g1_8, g1_2, hd4, hd6]
        refine ⟨hx1, ?_⟩
        unfold uintV
        have hge := bit_ge (X := val la) (k := k1) (by rw [val_bit]; exact hd4)
        have h64 : 2 ^ 64 ≤ 2 ^ k1 := Nat.pow_le_pow_right (by decide) (by omega)
        rw [if_neg (by omega)]
      · have hd6 : decide (64 ≤ k1) = false := decide_eq_false hq6
        refine Cw.cond (t := false) (by simp only [S0, Nat.reduceEqDiff, Nat.reduceAdd, reduceIte, reduceCtorEq, S1, g1_6, g1_7, g1_8, g1_2, hd4, hd6]) ?_
        refine Cw.skip ?_
        show Cw _ _ _ _ _
        refine Cw.seq ?_
        refine Cw.region ?_
        (refine Ow.popM rfl ?_; simp only [S0, Nat.reduceEqDiff, Nat.reduceAdd, reduceIte, reduceCtorEq, S1, g1_6, g1_7, g1_8, g1_2, hd4, hd6])
        refine Ow.nilM ⟨nofun, ?_⟩
        show Cw _ _ _ _ _
        refine Cw.cond (t := true) (by simp only [S0, Nat.reduceEqDiff, Nat.reduceAdd, reduceIte, reduceCtorEq, S1, g1_6, g1_7, g1_8, g1_2, hd4, hd6]) ?_
        refine Cw.region ?_
        iterate 3 (refine Ow.popM rfl ?_; simp only [S0, Nat.reduceEqDiff, Nat.reduceAdd, reduceIte, reduceCtorEq, S1, shl_u64 (show k1 < 64 by omega), g1_6, g1_7, g1_8, g1_2, hd4, hd6])
        (refine Ow.popM rfl ?_; simp only [S0, Nat.reduceEqDiff, Nat.reduceAdd, reduceIte, reduceCtorEq, S1, or_u64 (Nat.mod_lt (val la) (Nat.two_pow_pos k1)) (show k1 < 64 by omega), g1_6, g1_7, g1_8, g1_2, hd4, hd6])
        (refine Ow.popM rfl ?_; simp only [S0, Nat.reduceEqDiff, Nat.reduceAdd, reduceIte, reduceCtorEq, S1, g1_6, g1_7, g1_8, g1_2, hd4, hd6])
        refine Ow.nilM ⟨nofun, ?_⟩
        show Cw _ _ _ _ _
        refine Cw.region ?_
        iterate 2 (refine Ow.popM rfl ?_; simp only [S0, Nat.reduceEqDiff, Nat.reduceAdd, reduceIte, reduceCtorEq, S1, show fwrap .i64 ((((k1 : Nat) : Int) : Int) + (1 : Int)) = ((k1 + 1 : Nat) : Int) from add_nat (a := k1) (b := 1) (by omega), g1_6, g1_7, g1_8, g1_2, hd4, hd6])
        refine Ow.nilM ⟨nofun, ?_⟩
        have e7 : val la % 2 ^ (k1 + 1) = val la % 2 ^ k1 + 2 ^ k1 := by rw [mod_bit, val_bit, hd4]; simp
        exact ⟨hlt1, ⟨(by simp only [S0, Nat.reduceEqDiff, Nat.reduceAdd, reduceIte, reduceCtorEq, S1, and_self, g1_6, g1_7, g1_8, g1_2, hd4, hd6, e7]), (by simp only [S0, Nat.reduceEqDiff, Nat.reduceAdd, reduceIte, reduceCtorEq, S1, and_self, g1_6, g1_7, g1_8, g1_2, hd4, hd6, e7]), (by simp only [S0, Nat.reduceEqDiff, Nat.reduceAdd, reduceIte, reduceCtorEq, S1, and_self, g1_6, g1_7, g1_8, g1_2, hd4, hd6, e7] <;> rfl), (by simp only [S0, Nat.reduceEqDiff, Nat.reduceAdd, reduceIte, reduceCtorEq, S1, and_self, g1_6, g1_7, g1_8, g1_2, hd4, hd6, e7] <;> rfl)⟩, hx1, (mod_64 (by omega))⟩
  · obtain rfl : la.length = k1 := by omega
    rw [Nat.mod_eq_of_lt (val_lt la)] at hsm g1_2
    refine Cw.seq ?_
    refine Cw.region ?_
    (refine Ow.popM rfl ?_; simp only [S0, Nat.reduceEqDiff, Nat.reduceAdd, reduceIte, reduceCtorEq, S1, show decide ((((la.length : Nat) : Int) : Int) < (((la.length : Nat) : Int) : Int)) = decide (la.length < la.length) from lt_dec (la.length) (la.length), show decide (la.length < la.length) = false from decide_eq_false (Nat.lt_irrefl _), g1_6, g1_7, g1_8, g1_2])
    refine Ow.nilM ⟨nofun, ?_⟩
    show Cw _ _ _ _ _
    refine Cw.seq ?_
    refine Cw.cond (t := false) (by simp only [S0, Nat.reduceEqDiff, Nat.reduceAdd, reduceIte, reduceCtorEq, S1, g1_6, g1_7, g1_8, g1_2]) ?_
    refine Cw.exit ?_
    show Cw _ _ _ _ _
    refine Cw.seq ?_
    refine Cw.region ?_
    iterate 3 (refine Ow.popM rfl ?_; simp only [S0, Nat.reduceEqDiff, Nat.reduceAdd, reduceIte, reduceCtorEq, S1, g1_6, g1_7, g1_8, g1_2])
    refine Ow.nilM ⟨nofun, ?_⟩
    show Cw _ _ _ _ _
    refine Cw.ret ?_
    simp only [Then, InBlock, Rnd, FnPost, resOf, tupled, S0, Nat.reduceEqDiff, Nat.reduceAdd, reduceIte, reduceCtorEq, g1_6, g1_7, g1_8, g1_2]
    refine ⟨hx1, ?_⟩
    unfold uintV
    rw [if_pos hsm]
end
section
open Go Go.AL
variable {ext : Nat → Option (List Value → AH → Option (Value × AH))}
/-- What Int answers. -/
def intV (l : List Bool) : Value := if -(2 : Int) ^ 63 ≤ sval l ∧ sval l < (2 : Int) ^ 63 then .tuple ⟨[.int .i64 (sval l), .bool true]⟩ else .tuple ⟨[.int .i64 0, .bool false]⟩
theorem shl_i64 {k : Nat} (h : k < 63) : aShift .shl .i64 1 (k : Int) = some (.int .i64 ((2 ^ k : Nat) : Int)) := by
  unfold aShift
  rw [if_neg (by omega)]
  simp only [Int.toNat_natCast, show Nat.min k (IntKind.bits .i64) = k from Nat.min_eq_left (by show k ≤ 64; omega), Int.one_mul]
  have e : ((2 : Int) ^ k) = ((2 ^ k : Nat) : Int) := by push_cast; rfl
  rw [e, wrap_small (Nat.pow_lt_pow_right (by decide) h)]
theorem or_i64 {X k : Nat} (hX : X < 2 ^ k) (hk : k < 63) : IntKind.wrap .i64 ((BitVec.ofInt (IntKind.bits .i64) (X : Int) ||| BitVec.ofInt (IntKind.bits .i64) ((2 ^ k : Nat) : Int)).toNat : Int) = ((X + 2 ^ k : Nat) : Int) := by
  have h2 : 2 ^ k + 2 ^ k ≤ 2 ^ 63 := by
    have : 2 ^ (k + 1) ≤ 2 ^ 63 := Nat.pow_le_pow_right (by decide) hk
    rw [Nat.pow_succ] at this
    omega
  have e : (BitVec.ofInt 64 (X : Int) ||| BitVec.ofInt 64 ((2 ^ k : Nat) : Int)).toNat = X + 2 ^ k := by
    rw [BitVec.toNat_or, BitVec.ofInt_natCast, BitVec.ofInt_natCast, BitVec.toNat_ofNat, BitVec.toNat_ofNat, Nat.mod_eq_of_lt (by omega), Nat.mod_eq_of_lt (by omega), or_bit hX]
  rw [show IntKind.bits .i64 = 64 from rfl, e, wrap_small (by omega)]
theorem bx_big {l : List Bool} {j : Nat} (h : l.length ≤ j) : bx l j = false := bx_ge (by omega)
theorem high_bits {l : List Bool} {n : Nat} (b : Bool) (h : ∀ j, n ≤ j → j < l.length → bx l j = b) : val l / 2 ^ n = if b then 2 ^ (l.length - n) - 1 else 0 := by
  apply Nat.eq_of_testBit_eq
  intro i
  rw [Nat.testBit_div_two_pow, val_bit]
  by_cases hi : i + n < l.length
  · rw [h _ (by omega) hi]
    cases b with
    | true => rw [if_pos rfl, Nat.testBit_two_pow_sub_one]; simp; omega
    | false => simp
  · rw [bx_big (by omega)]
    cases b with
    | true => rw [if_pos rfl, Nat.testBit_two_pow_sub_one]; simp; omega
    | false => simp
theorem sval_pos {l : List Bool} (h : ng l = false) : sval l = (val l : Int) := by unfold sval absN; rw [h]; rfl
theorem sval_neg {l : List Bool} (h : ng l = true) : sval l = (val l : Int) - ((2 ^ l.length : Nat) : Int) := by
  unfold sval absN
  have := val_lt l
  rw [h, if_pos rfl, if_pos rfl, Int.ofNat_sub (by omega)]
  omega
theorem sval_high {l : List Bool} (hl : 63 ≤ l.length) (h : ∀ j, 63 ≤ j → j < l.length → bx l j = ng l) : sval l = ((val l % 2 ^ 63 : Nat) : Int) - (if ng l then (2 : Int) ^ 63 else 0) := by
  have hb := high_bits (n := 63) (ng l) h
  have hd := Nat.div_add_mod (val l) (2 ^ 63)
  cases hn : ng l with
  | true =>
    rw [hn, if_pos rfl] at hb
    obtain ⟨d, hd2⟩ : ∃ d, l.length = 63 + d := ⟨l.length - 63, by omega⟩
    have hp := Nat.two_pow_pos d
    rw [sval_neg hn, if_pos rfl]
    have e : val l = 2 ^ 63 * 2 ^ d - 2 ^ 63 + val l % 2 ^ 63 := by
      rw [hb, hd2, Nat.add_sub_cancel_left, Nat.mul_sub, Nat.mul_one] at hd
      exact hd.symm
    rw [hd2, Nat.pow_add]
    have hge : 2 ^ 63 ≤ 2 ^ 63 * 2 ^ d := Nat.le_mul_of_pos_right _ hp
    generalize 2 ^ 63 * 2 ^ d = Q at *
    omega
  | false =>
    rw [hn] at hb
    rw [sval_pos hn]
    simp only [Bool.false_eq_true, if_false] at hb ⊢
    omega
theorem not_fit {l : List Bool} {k : Nat} (hk : 63 ≤ k) (hl : k < l.length) (h : (bx l k != bx l (l.length - 1)) = true) : ¬ (-(2 : Int) ^ 63 ≤ sval l ∧ sval l < (2 : Int) ^ 63) := by
  have h63 : 2 ^ 63 ≤ 2 ^ k := Nat.pow_le_pow_right (by decide) hk
  have hv := val_lt l
  have hng : bx l (l.length - 1) = ng l := rfl
  rw [hng] at h
  cases hn : ng l with
  | false =>
    rw [hn] at h
    have hb : bx l k = true := by simpa using h
    have := bit_ge (X := val l) (k := k) (by rw [val_bit]; exact hb)
    rw [sval_pos hn]
    omega
  | true =>
    rw [hn] at h
    have hb : bx l k = false := by simpa using h
    have hc : (2 ^ l.length - (val l + 1)).testBit k = true := by
      rw [Nat.testBit_two_pow_sub_succ hv, val_bit, hb]
      simp [hl]
    have := bit_ge hc
    rw [sval_neg hn]
    omega
theorem int_neg {n X : Nat} (h1 : 1 ≤ n) (h2 : n < 64) (hX : X < 2 ^ n) (h3 : 2 ^ (n - 1) ≤ X) : fwrap .i64 ((X : Int) - fwrap .i64 (((2 ^ (n - 1) : Nat) : Int) * 2)) = (X : Int) - ((2 ^ n : Nat) : Int) := by
  obtain ⟨m, rfl⟩ : ∃ m, n = m + 1 := ⟨n - 1, by omega⟩
  rw [Nat.add_sub_cancel] at h3 ⊢
  rw [Nat.pow_succ] at hX ⊢
  have hm : 2 ^ m ≤ 2 ^ 62 := Nat.pow_le_pow_right (by decide) (by omega)
  generalize 2 ^ m = Q at *
  have e2 : ∀ y : Int, fwrap .i64 y = if y % (2 : Int) ^ 64 ≥ 2 ^ 63 then y % (2 : Int) ^ 64 - 2 ^ 64 else y % (2 : Int) ^ 64 := fun y => by
    rw [fwrap_eq]
    unfold IntKind.wrap
    simp only [show IntKind.bits .i64 = 64 from rfl, show IntKind.signed .i64 = true from rfl, Bool.true_and, decide_eq_true_eq, Nat.reduceSub]
  rw [e2, e2]
  split <;> split <;> omega
theorem ng_half {l : List Bool} (h : ng l = true) : 2 ^ (l.length - 1) ≤ val l := bit_ge (by rw [val_bit]; exact h)
theorem ng_len {l : List Bool} (h : ng l = true) : 1 ≤ l.length := by
  rcases Nat.eq_zero_or_pos l.length with h0 | h0
  · rw [ng_nil h0] at h; cases h
  · exact h0
theorem fw64 {x : Int} (h1 : -(2 ^ 63) ≤ x) (h2 : x < 2 ^ 63) : fwrap .i64 x = x := by
  rw [fwrap_eq]
  unfold IntKind.wrap
  simp only [show IntKind.bits .i64 = 64 from rfl, show IntKind.signed .i64 = true from rfl, Bool.true_and, decide_eq_true_eq, Nat.reduceSub]
  split <;> omega
/-- bv.Int -/
theorem bInt_any (hx : Ext0 ext) {H : AH} {va : Value} {la : List Bool} (fa : IsB H va la) (hla : la.length < 2 ^ 33) :
    Run (Cx ext) 54 [va] H fun r H' => AL.Ext H H' ∧ r = intV la := by
  refine Run.intro (fi := IR.fi54) (hx 54 (by decide)) (by kernel_rfl) ?_
  unfold IR.fi54
  simp only [envOf_cons, envOf_nil]
  refine Cw.seq ?_
  refine Cw.region ?_
  iterate 2 (refine Ow.popM rfl ?_; simp only [S0, Nat.reduceEqDiff, Nat.reduceAdd, reduceIte, reduceCtorEq, S1])
  refine Ow.nilM ⟨nofun, ?_⟩
  show Cw _ _ _ _ _
  refine Cw.seq ?_
  refine Cw.region ?_
  (refine Ow.popM rfl ?_; simp only [S0, Nat.reduceEqDiff, Nat.reduceAdd, reduceIte, reduceCtorEq, S1])
  refine Ow.nilM ⟨nofun, ?_⟩
  show Cw _ _ _ _ _
  refine Cw.seq ?_
  refine Cw.seq ?_
  refine Cw.region ?_
  (refine Ow.popM rfl ?_; simp only [S0, Nat.reduceEqDiff, Nat.reduceAdd, reduceIte, reduceCtorEq, S1])
  refine Ow.lenA rfl (by simp only [S0, Nat.reduceEqDiff, Nat.reduceAdd, reduceIte, reduceCtorEq, S1]) fa ?_
  (refine Ow.popM rfl ?_; simp only [S0, Nat.reduceEqDiff, Nat.reduceAdd, reduceIte, reduceCtorEq, S1])
  refine Ow.nilM ⟨nofun, ?_⟩
  show Cw _ _ _ _ _
  refine Cw.block ?_
  refine Cw.loopI (la.length) (fun k E Hq => (E.get 0 = some (va) ∧ E.get 7 = some (va) ∧ E.get 8 = some (.int .i64 ((la.length : Nat) : Int)) ∧ E.get 9 = some (.int .i64 ((k : Nat) : Int)) ∧ E.get 4 = some (.int .i64 (((val la % 2 ^ min k 63 : Nat) : Int)))) ∧ AL.Ext H Hq ∧ (∀ j, 63 ≤ j → j < k → bx la j = ng la)) ⟨⟨(by simp only [S0, Nat.reduceEqDiff, Nat.reduceAdd, reduceIte, reduceCtorEq, S1, and_self]), (by simp only [S0, Nat.reduceEqDiff, Nat.reduceAdd, reduceIte, reduceCtorEq, S1, and_self]), (by simp only [S0, Nat.reduceEqDiff, Nat.reduceAdd, reduceIte, reduceCtorEq, S1, and_self]), (by simp only [S0, Nat.reduceEqDiff, Nat.reduceAdd, reduceIte, reduceCtorEq, eq_self] <;> first | rfl | simp [Nat.mod_one]), (by simp only [S0, Nat.reduceEqDiff, Nat.reduceAdd, reduceIte, reduceCtorEq, eq_self]; simp [Nat.mod_one])⟩, (AL.Ext.refl _), (fun j h1 h2 => by omega)⟩ ?_
  rintro k1 E1 H1 hk1 ⟨⟨g1_0, g1_7, g1_8, g1_9, g1_4⟩, hx1, hs⟩
  by_cases hlt1 : k1 < la.length
  · skip
    refine Cw.seq ?_
    refine Cw.region ?_
    (refine Ow.popM rfl ?_; simp only [S0, Nat.reduceEqDiff, Nat.reduceAdd, reduceIte, reduceCtorEq, S1, show decide ((((k1 : Nat) : Int) : Int) < (((la.length : Nat) : Int) : Int)) = decide (k1 < la.length) from lt_dec (k1) (la.length), show decide (k1 < la.length) = true from decide_eq_true (hlt1), g1_0, g1_7, g1_8, g1_9, g1_4])
    refine Ow.nilM ⟨nofun, ?_⟩
    show Cw _ _ _ _ _
    refine Cw.seq ?_
    refine Cw.cond (t := true) (by simp only [S0, Nat.reduceEqDiff, Nat.reduceAdd, reduceIte, reduceCtorEq, S1, g1_0, g1_7, g1_8, g1_9, g1_4]) ?_
    refine Cw.skip ?_
    show Cw _ _ _ _ _
    refine Cw.seq ?_
    refine Cw.block ?_
    refine Cw.seq ?_
    refine Cw.region ?_
    (refine Ow.popM rfl ?_; simp only [S0, Nat.reduceEqDiff, Nat.reduceAdd, reduceIte, reduceCtorEq, S1, g1_0, g1_7, g1_8, g1_9, g1_4])
    have fa_2 := fa.ext hx1
    refine Ow.rdA (k := .i64) (b := bx la (k1)) (n := k1) rfl (fun p => rfl) (by simp only [S0, Nat.reduceEqDiff, Nat.reduceAdd, reduceIte, reduceCtorEq, S1, g1_0, g1_7, g1_8, g1_9, g1_4]) (by simp only [S0, Nat.reduceEqDiff, Nat.reduceAdd, reduceIte, reduceCtorEq, S1, g1_0, g1_7, g1_8, g1_9, g1_4]) fa_2 (bx_lt (by omega)) ?_
    intro p3
    iterate 2 (refine Ow.popM rfl ?_; simp only [S0, Nat.reduceEqDiff, Nat.reduceAdd, reduceIte, reduceCtorEq, S1, g1_0, g1_7, g1_8, g1_9, g1_4])
    refine Ow.nilM ⟨nofun, ?_⟩
    show Cw _ _ _ _ _
    refine Cw.seq ?_
    refine Cw.seq ?_
    refine Cw.region ?_
    iterate 3 (refine Ow.popM rfl ?_; simp only [S0, Nat.reduceEqDiff, Nat.reduceAdd, reduceIte, reduceCtorEq, S1, show decide ((((k1 : Nat) : Int) : Int) ≥ (63 : Int)) = decide (63 ≤ k1) from ge_dec (k1) (63), g1_0, g1_7, g1_8, g1_9, g1_4])
    by_cases hq4 : 63 ≤ k1
    · have hd4 : decide (63 ≤ k1) = true := decide_eq_true hq4
      iterate 3 (refine Ow.popM rfl ?_; simp only [S0, Nat.reduceEqDiff, Nat.reduceAdd, reduceIte, reduceCtorEq, S1, g1_0, g1_7, g1_8, g1_9, g1_4, hd4])
      refine Ow.lenA (by simp only [S0, Nat.reduceEqDiff, Nat.reduceAdd, reduceIte, reduceCtorEq, S1, g1_0, g1_7, g1_8, g1_9, g1_4, hd4]) (by simp only [S0, Nat.reduceEqDiff, Nat.reduceAdd, reduceIte, reduceCtorEq, S1, g1_0, g1_7, g1_8, g1_9, g1_4, hd4]) fa_2 ?_
      (refine Ow.popM rfl ?_; simp only [S0, Nat.reduceEqDiff, Nat.reduceAdd, reduceIte, reduceCtorEq, S1, show fwrap .i64 ((((la.length : Nat) : Int) : Int) - (1 : Int)) = ((la.length - 1 : Nat) : Int) from sub_nat (a := la.length) (b := 1) (by omega) (by omega), g1_0, g1_7, g1_8, g1_9, g1_4, hd4])
      refine Ow.rdA (k := .i64) (b := bx la (la.length - 1)) (n := la.length - 1) (by simp only [S0, Nat.reduceEqDiff, Nat.reduceAdd, reduceIte, reduceCtorEq, S1, g1_0, g1_7, g1_8, g1_9, g1_4, hd4]) (fun p => (by simp only [S0, Nat.reduceEqDiff, Nat.reduceAdd, reduceIte, reduceCtorEq, S1, g1_0, g1_7, g1_8, g1_9, g1_4, hd4])) (by simp only [S0, Nat.reduceEqDiff, Nat.reduceAdd, reduceIte, reduceCtorEq, S1, g1_0, g1_7, g1_8, g1_9, g1_4, hd4]) (by simp only [S0, Nat.reduceEqDiff, Nat.reduceAdd, reduceIte, reduceCtorEq, S1, g1_0, g1_7, g1_8, g1_9, g1_4, hd4]) fa_2 (bx_lt (by omega)) ?_
      intro p5
      iterate 2 (refine Ow.popM rfl ?_; simp only [S0, Nat.reduceEqDiff, Nat.reduceAdd, reduceIte, reduceCtorEq, S1, g1_0, g1_7, g1_8, g1_9, g1_4, hd4])
      refine Ow.nilM ⟨nofun, ?_⟩
      show Cw _ _ _ _ _
      cases hd6 : ((bx la (k1) != bx la (la.length - 1)))
      · skip
        refine Cw.cond (t := false) (by simp only [S0, Nat.reduceEqDiff, Nat.reduceAdd, reduceIte, reduceCtorEq, S1, g1_0, g1_7, g1_8, g1_9, g1_4, hd4, hd6]) ?_
        refine Cw.skip ?_
        show Cw _ _ _ _ _
        refine Cw.seq ?_
        refine Cw.region ?_
        iterate 2 (refine Ow.popM rfl ?_; simp only [S0, Nat.reduceEqDiff, Nat.reduceAdd, reduceIte, reduceCtorEq, S1, g1_0, g1_7, g1_8, g1_9, g1_4, hd4, hd6])
        cases hd7 : (bx la (k1))
        · skip
          refine Ow.pass (by simp only [S0, Nat.reduceEqDiff, Nat.reduceAdd, reduceIte, reduceCtorEq, S1, g1_0, g1_7, g1_8, g1_9, g1_4, hd4, hd6, hd7]) ?_
          refine Ow.pass (by simp only [S0, Nat.reduceEqDiff, Nat.reduceAdd, reduceIte, reduceCtorEq, S1, g1_0, g1_7, g1_8, g1_9, g1_4, hd4, hd6, hd7]) ?_
          (refine Ow.popM rfl ?_; simp only [S0, Nat.reduceEqDiff, Nat.reduceAdd, reduceIte, reduceCtorEq, S1, g1_0, g1_7, g1_8, g1_9, g1_4, hd4, hd6, hd7])
          refine Ow.nilM ⟨nofun, ?_⟩
          show Cw _ _ _ _ _
          refine Cw.cond (t := false) (by simp only [S0, Nat.reduceEqDiff, Nat.reduceAdd, reduceIte, reduceCtorEq, S1, g1_0, g1_7, g1_8, g1_9, g1_4, hd4, hd6, hd7]) ?_
          refine Cw.skip ?_
          show Cw _ _ _ _ _
          refine Cw.region ?_
          iterate 2 (refine Ow.popM rfl ?_; simp only [S0, Nat.reduceEqDiff, Nat.reduceAdd, reduceIte, reduceCtorEq, S1, show fwrap .i64 ((((k1 : Nat) : Int) : Int) + (1 : Int)) = ((k1 + 1 : Nat) : Int) from add_nat (a := k1) (b := 1) (by omega), g1_0, g1_7, g1_8, g1_9, g1_4, hd4, hd6, hd7])
          refine Ow.nilM ⟨nofun, ?_⟩
          have e8 : val la % 2 ^ min (k1 + 1) 63 = val la % 2 ^ min k1 63 := by rw [show min (k1 + 1) 63 = 63 by omega, show min k1 63 = 63 by omega]
          have hs : ∀ j, 63 ≤ j → j < k1 + 1 → bx la j = ng la := fun j h1 h2 => by
            by_cases hj : j < k1
            · exact hs j h1 hj
            · obtain rfl : j = k1 := by omega
              exact bne_eq_false_iff_eq.1 hd6
          exact ⟨hlt1, ⟨(by simp only [S0, Nat.reduceEqDiff, Nat.reduceAdd, reduceIte, reduceCtorEq, S1, and_self, g1_0, g1_7, g1_8, g1_9, g1_4, hd4, hd6, hd7, e8]), (by simp only [S0, Nat.reduceEqDiff, Nat.reduceAdd, reduceIte, reduceCtorEq, S1, and_self, g1_0, g1_7, g1_8, g1_9, g1_4, hd4, hd6, hd7, e8]), (by simp only [S0, Nat.reduceEqDiff, Nat.reduceAdd, reduceIte, reduceCtorEq, S1, and_self, g1_0, g1_7, g1_8, g1_9, g1_4, hd4, hd6, hd7, e8]), (by simp only [S0, Nat.reduceEqDiff, Nat.reduceAdd, reduceIte, reduceCtorEq, S1, and_self, g1_0, g1_7, g1_8, g1_9, g1_4, hd4, hd6, hd7, e8] <;> rfl), (by simp only [S0, Nat.reduceEqDiff, Nat.reduceAdd, reduceIte, reduceCtorEq, S1, and_self, g1_0, g1_7, g1_8, g1_9, g1_4, hd4, hd6, hd7, e8] <;> rfl)⟩, hx1, hs⟩
        · skip
          iterate 3 (refine Ow.popM rfl ?_; simp only [S0, Nat.reduceEqDiff, Nat.reduceAdd, reduceIte, reduceCtorEq, S1, show decide ((((k1 : Nat) : Int) : Int) < (63 : Int)) = decide (k1 < 63) from lt_dec (k1) (63), show decide (k1 < 63) = false from decide_eq_false (by omega), g1_0, g1_7, g1_8, g1_9, g1_4, hd4, hd6, hd7])
          refine Ow.nilM ⟨nofun, ?_⟩
          show Cw _ _ _ _ _
          refine Cw.cond (t := false) (by simp only [S0, Nat.reduceEqDiff, Nat.reduceAdd, reduceIte, reduceCtorEq, S1, g1_0, g1_7, g1_8, g1_9, g1_4, hd4, hd6, hd7]) ?_
          refine Cw.skip ?_
          show Cw _ _ _ _ _
          refine Cw.region ?_
          iterate 2 (refine Ow.popM rfl ?_; simp only [S0, Nat.reduceEqDiff, Nat.reduceAdd, reduceIte, reduceCtorEq, S1, show fwrap .i64 ((((k1 : Nat) : Int) : Int) + (1 : Int)) = ((k1 + 1 : Nat) : Int) from add_nat (a := k1) (b := 1) (by omega), g1_0, g1_7, g1_8, g1_9, g1_4, hd4, hd6, hd7])
          refine Ow.nilM ⟨nofun, ?_⟩
          have e9 : val la % 2 ^ min (k1 + 1) 63 = val la % 2 ^ min k1 63 := by rw [show min (k1 + 1) 63 = 63 by omega, show min k1 63 = 63 by omega]
          have hs : ∀ j, 63 ≤ j → j < k1 + 1 → bx la j = ng la := fun j h1 h2 => by
            by_cases hj : j < k1
            · exact hs j h1 hj
            · obtain rfl : j = k1 := by omega
              exact bne_eq_false_iff_eq.1 hd6
          exact ⟨hlt1, ⟨(by simp only [S0, Nat.reduceEqDiff, Nat.reduceAdd, reduceIte, reduceCtorEq, S1, and_self, g1_0, g1_7, g1_8, g1_9, g1_4, hd4, hd6, hd7, e9]), (by simp only [S0, Nat.reduceEqDiff, Nat.reduceAdd, reduceIte, reduceCtorEq, S1, and_self, g1_0, g1_7, g1_8, g1_9, g1_4, hd4, hd6, hd7, e9]), (by simp only [S0, Nat.reduceEqDiff, Nat.reduceAdd, reduceIte, reduceCtorEq, S1, and_self, g1_0, g1_7, g1_8, g1_9, g1_4, hd4, hd6, hd7, e9]), (by simp only [S0, Nat.reduceEqDiff, Nat.reduceAdd, reduceIte, reduceCtorEq, S1, and_self, g1_0, g1_7, g1_8, g1_9, g1_4, hd4, hd6, hd7, e9] <;> rfl), (by simp only [S0, Nat.reduceEqDiff, Nat.reduceAdd, reduceIte, reduceCtorEq, S1, and_self, g1_0, g1_7, g1_8, g1_9, g1_4, hd4, hd6, hd7, e9] <;> rfl)⟩, hx1, hs⟩
      · skip
        refine Cw.cond (t := true) (by simp only [S0, Nat.reduceEqDiff, Nat.reduceAdd, reduceIte, reduceCtorEq, S1, g1_0, g1_7, g1_8, g1_9, g1_4, hd4, hd6]) ?_
        refine Cw.seq ?_
        refine Cw.region ?_
        iterate 2 (refine Ow.popM rfl ?_; simp only [S0, Nat.reduceEqDiff, Nat.reduceAdd, reduceIte, reduceCtorEq, S1, g1_0, g1_7, g1_8, g1_9, g1_4, hd4, hd6])
        refine Ow.nilM ⟨nofun, ?_⟩
        show Cw _ _ _ _ _
        refine Cw.ret ?_
        simp only [Then, InBlock, Rnd, FnPost, resOf, tupled, S0, Nat.reduceEqDiff, Nat.reduceAdd, reduceIte, reduceCtorEq, g1_0, g1_7, g1_8, g1_9, g1_4, hd4, hd6]
        refine ⟨hx1, ?_⟩
        unfold intV
        rw [if_neg (not_fit (k := k1) (by omega) (by omega) hd6)]
    · have hd4 : decide (63 ≤ k1) = false := decide_eq_false hq4
      refine Ow.pass (by simp only [S0, Nat.reduceEqDiff, Nat.reduceAdd, reduceIte, reduceCtorEq, S1, g1_0, g1_7, g1_8, g1_9, g1_4, hd4]) ?_
      refine Ow.pass (by simp only [S0, Nat.reduceEqDiff, Nat.reduceAdd, reduceIte, reduceCtorEq, S1, g1_0, g1_7, g1_8, g1_9, g1_4, hd4]) ?_
      refine Ow.pass (by simp only [S0, Nat.reduceEqDiff, Nat.reduceAdd, reduceIte, reduceCtorEq, S1, g1_0, g1_7, g1_8, g1_9, g1_4, hd4]) ?_
      refine Ow.pass (by simp only [S0, Nat.reduceEqDiff, Nat.reduceAdd, reduceIte, reduceCtorEq, S1, g1_0, g1_7, g1_8, g1_9, g1_4, hd4]) ?_
      refine Ow.pass (by simp only [S0, Nat.reduceEqDiff, Nat.reduceAdd, reduceIte, reduceCtorEq, S1, g1_0, g1_7, g1_8, g1_9, g1_4, hd4]) ?_
      refine Ow.pass (by simp only [S0, Nat.reduceEqDiff, Nat.reduceAdd, reduceIte, reduceCtorEq, S1, g1_0, g1_7, g1_8, g1_9, g1_4, hd4]) ?_
      refine Ow.pass (by simp only [S0, Nat.reduceEqDiff, Nat.reduceAdd, reduceIte, reduceCtorEq, S1, g1_0, g1_7, g1_8, g1_9, g1_4, hd4]) ?_
      refine Ow.pass (by simp only [S0, Nat.reduceEqDiff, Nat.reduceAdd, reduceIte, reduceCtorEq, S1, g1_0, g1_7, g1_8, g1_9, g1_4, hd4]) ?_
      (refine Ow.popM rfl ?_; simp only [S0, Nat.reduceEqDiff, Nat.reduceAdd, reduceIte, reduceCtorEq, S1, g1_0, g1_7, g1_8, g1_9, g1_4, hd4])
      refine Ow.nilM ⟨nofun, ?_⟩
      show Cw _ _ _ _ _
      refine Cw.cond (t := false) (by simp only [S0, Nat.reduceEqDiff, Nat.reduceAdd, reduceIte, reduceCtorEq, S1, g1_0, g1_7, g1_8, g1_9, g1_4, hd4]) ?_
      refine Cw.skip ?_
      show Cw _ _ _ _ _
      refine Cw.seq ?_
      refine Cw.region ?_
      iterate 2 (refine Ow.popM rfl ?_; simp only [S0, Nat.reduceEqDiff, Nat.reduceAdd, reduceIte, reduceCtorEq, S1, g1_0, g1_7, g1_8, g1_9, g1_4, hd4])
      cases hd10 : (bx la (k1))
      · skip
        refine Ow.pass (by simp only [S0, Nat.reduceEqDiff, Nat.reduceAdd, reduceIte, reduceCtorEq, S1, g1_0, g1_7, g1_8, g1_9, g1_4, hd4, hd10]) ?_
        refine Ow.pass (by simp only [S0, Nat.reduceEqDiff, Nat.reduceAdd, reduceIte, reduceCtorEq, S1, g1_0, g1_7, g1_8, g1_9, g1_4, hd4, hd10]) ?_
        (refine Ow.popM rfl ?_; simp only [S0, Nat.reduceEqDiff, Nat.reduceAdd, reduceIte, reduceCtorEq, S1, g1_0, g1_7, g1_8, g1_9, g1_4, hd4, hd10])
        refine Ow.nilM ⟨nofun, ?_⟩
        show Cw _ _ _ _ _
        refine Cw.cond (t := false) (by simp only [S0, Nat.reduceEqDiff, Nat.reduceAdd, reduceIte, reduceCtorEq, S1, g1_0, g1_7, g1_8, g1_9, g1_4, hd4, hd10]) ?_
        refine Cw.skip ?_
        show Cw _ _ _ _ _
        refine Cw.region ?_
        iterate 2 (refine Ow.popM rfl ?_; simp only [S0, Nat.reduceEqDiff, Nat.reduceAdd, reduceIte, reduceCtorEq, S1, show fwrap .i64 ((((k1 : Nat) : Int) : Int) + (1 : Int)) = ((k1 + 1 : Nat) : Int) from add_nat (a := k1) (b := 1) (by omega), g1_0, g1_7, g1_8, g1_9, g1_4, hd4, hd10])
        refine Ow.nilM ⟨nofun, ?_⟩
        have e11 : val la % 2 ^ min (k1 + 1) 63 = val la % 2 ^ k1 := by rw [show min (k1 + 1) 63 = k1 + 1 by omega, mod_bit, val_bit, hd10]; simp
        have e11b : min k1 63 = k1 := by omega
        have hs : ∀ j, 63 ≤ j → j < k1 + 1 → bx la j = ng la := fun j h1 h2 => by omega
        exact ⟨hlt1, ⟨(by simp only [S0, Nat.reduceEqDiff, Nat.reduceAdd, reduceIte, reduceCtorEq, S1, and_self, g1_0, g1_7, g1_8, g1_9, g1_4, hd4, hd10, e11b, e11]), (by simp only [S0, Nat.reduceEqDiff, Nat.reduceAdd, reduceIte, reduceCtorEq, S1, and_self, g1_0, g1_7, g1_8, g1_9, g1_4, hd4, hd10, e11b, e11]), (by simp only [S0, Nat.reduceEqDiff, Nat.reduceAdd, reduceIte, reduceCtorEq, S1, and_self, g1_0, g1_7, g1_8, g1_9, g1_4, hd4, hd10, e11b, e11]), (by simp only [S0, Nat.reduceEqDiff, Nat.reduceAdd, reduceIte, reduceCtorEq, S1, and_self, g1_0, g1_7, g1_8, g1_9, g1_4, hd4, hd10, e11b, e11] <;> rfl), (by simp only [S0, Nat.reduceEqDiff, Nat.reduceAdd, reduceIte, reduceCtorEq, S1, and_self, g1_0, g1_7, g1_8, g1_9, g1_4, hd4, hd10, e11b, e11] <;> rfl)⟩, hx1, hs⟩
      · skip
        iterate 3 (refine Ow.popM rfl ?_; simp only [S0, Nat.reduceEqDiff, Nat.reduceAdd, reduceIte, reduceCtorEq, S1, show decide ((((k1 : Nat) : Int) : Int) < (63 : Int)) = decide (k1 < 63) from lt_dec (k1) (63), show decide (k1 < 63) = true from decide_eq_true (by omega), g1_0, g1_7, g1_8, g1_9, g1_4, hd4, hd10])
        refine Ow.nilM ⟨nofun, ?_⟩
        show Cw _ _ _ _ _
        refine Cw.cond (t := true) (by simp only [S0, Nat.reduceEqDiff, Nat.reduceAdd, reduceIte, reduceCtorEq, S1, g1_0, g1_7, g1_8, g1_9, g1_4, hd4, hd10]) ?_
        refine Cw.region ?_
        iterate 2 (refine Ow.popM rfl ?_; simp only [S0, Nat.reduceEqDiff, Nat.reduceAdd, reduceIte, reduceCtorEq, S1, g1_0, g1_7, g1_8, g1_9, g1_4, hd4, hd10])
        refine Ow.gen (fun E => E.get 0 = some (va) ∧ E.get 4 = some (.int .i64 (((val la % 2 ^ min k1 63 : Nat) : Int))) ∧ E.get 7 = some (va) ∧ E.get 8 = some (.int .i64 ((la.length : Nat) : Int)) ∧ E.get 9 = some (.int .i64 ((k1 : Nat) : Int)) ∧ E.get 31 = some (.int .i64 (((val la % 2 ^ min k1 63 : Nat) : Int))) ∧ E.get 32 = some (.int .i64 ((k1 : Nat) : Int))) ⟨(by simp only [S0, Nat.reduceEqDiff, Nat.reduceAdd, reduceIte, reduceCtorEq, S1, and_self, g1_0, g1_7, g1_8, g1_9, g1_4, hd4, hd10]), (by simp only [S0, Nat.reduceEqDiff, Nat.reduceAdd, reduceIte, reduceCtorEq, S1, and_self, g1_0, g1_7, g1_8, g1_9, g1_4, hd4, hd10]), (by simp only [S0, Nat.reduceEqDiff, Nat.reduceAdd, reduceIte, reduceCtorEq, S1, and_self, g1_0, g1_7, g1_8, g1_9, g1_4, hd4, hd10]), (by simp only [S0, Nat.reduceEqDiff, Nat.reduceAdd, reduceIte, reduceCtorEq, S1, and_self, g1_0, g1_7, g1_8, g1_9, g1_4, hd4, hd10]), (by simp only [S0, Nat.reduceEqDiff, Nat.reduceAdd, reduceIte, reduceCtorEq, S1, and_self, g1_0, g1_7, g1_8, g1_9, g1_4, hd4, hd10]), (by simp only [S0, Nat.reduceEqDiff, Nat.reduceAdd, reduceIte, reduceCtorEq, S1, and_self, g1_0, g1_7, g1_8, g1_9, g1_4, hd4, hd10]), (by simp only [S0, Nat.reduceEqDiff, Nat.reduceAdd, reduceIte, reduceCtorEq, S1, and_self, g1_0, g1_7, g1_8, g1_9, g1_4, hd4, hd10])⟩ ?_
        rintro E12 ⟨g12_0, g12_4, g12_7, g12_8, g12_9, g12_31, g12_32⟩
        (refine Ow.popM rfl ?_; simp only [S0, Nat.reduceEqDiff, Nat.reduceAdd, reduceIte, reduceCtorEq, S1, shl_i64 (show k1 < 63 by omega), g12_0, g12_4, g12_7, g12_8, g12_9, g12_31, g12_32, hd4, hd10])
        (refine Ow.popM rfl ?_; simp only [S0, Nat.reduceEqDiff, Nat.reduceAdd, reduceIte, reduceCtorEq, S1, show min k1 63 = k1 from Nat.min_eq_left (by omega), or_i64 (Nat.mod_lt (val la) (Nat.two_pow_pos k1)) (show k1 < 63 by omega), g12_0, g12_4, g12_7, g12_8, g12_9, g12_31, g12_32, hd4, hd10])
        (refine Ow.popM rfl ?_; simp only [S0, Nat.reduceEqDiff, Nat.reduceAdd, reduceIte, reduceCtorEq, S1, g12_0, g12_4, g12_7, g12_8, g12_9, g12_31, g12_32, hd4, hd10])
        refine Ow.nilM ⟨nofun, ?_⟩
        show Cw _ _ _ _ _
        refine Cw.region ?_
        iterate 2 (refine Ow.popM rfl ?_; simp only [S0, Nat.reduceEqDiff, Nat.reduceAdd, reduceIte, reduceCtorEq, S1, show fwrap .i64 ((((k1 : Nat) : Int) : Int) + (1 : Int)) = ((k1 + 1 : Nat) : Int) from add_nat (a := k1) (b := 1) (by omega), g12_0, g12_4, g12_7, g12_8, g12_9, g12_31, g12_32, hd4, hd10])
        refine Ow.nilM ⟨nofun, ?_⟩
        have e13 : val la % 2 ^ min (k1 + 1) 63 = val la % 2 ^ k1 + 2 ^ k1 := by rw [show min (k1 + 1) 63 = k1 + 1 by omega, mod_bit, val_bit, hd10]; simp
        have e13b : min k1 63 = k1 := by omega
        have hs : ∀ j, 63 ≤ j → j < k1 + 1 → bx la j = ng la := fun j h1 h2 => by omega
        exact ⟨hlt1, ⟨(by simp only [S0, Nat.reduceEqDiff, Nat.reduceAdd, reduceIte, reduceCtorEq, S1, and_self, g12_0, g12_4, g12_7, g12_8, g12_9, g12_31, g12_32, hd4, hd10, e13b, e13]), (by simp only [S0, Nat.reduceEqDiff, Nat.reduceAdd, reduceIte, reduceCtorEq, S1, and_self, g12_0, g12_4, g12_7, g12_8, g12_9, g12_31, g12_32, hd4, hd10, e13b, e13]), (by simp only [S0, Nat.reduceEqDiff, Nat.reduceAdd, reduceIte, reduceCtorEq, S1, and_self, g12_0, g12_4, g12_7, g12_8, g12_9, g12_31, g12_32, hd4, hd10, e13b, e13]), (by simp only [S0, Nat.reduceEqDiff, Nat.reduceAdd, reduceIte, reduceCtorEq, S1, and_self, g12_0, g12_4, g12_7, g12_8, g12_9, g12_31, g12_32, hd4, hd10, e13b, e13] <;> rfl), (by simp only [S0, Nat.reduceEqDiff, Nat.reduceAdd, reduceIte, reduceCtorEq, S1, and_self, g12_0, g12_4, g12_7, g12_8, g12_9, g12_31, g12_32, hd4, hd10, e13b, e13] <;> rfl)⟩, hx1, hs⟩
  · obtain rfl : la.length = k1 := by omega
    refine Cw.seq ?_
    refine Cw.region ?_
    (refine Ow.popM rfl ?_; simp only [S0, Nat.reduceEqDiff, Nat.reduceAdd, reduceIte, reduceCtorEq, S1, show decide ((((la.length : Nat) : Int) : Int) < (((la.length : Nat) : Int) : Int)) = decide (la.length < la.length) from lt_dec (la.length) (la.length), show decide (la.length < la.length) = false from decide_eq_false (Nat.lt_irrefl _), g1_0, g1_7, g1_8, g1_9, g1_4])
    refine Ow.nilM ⟨nofun, ?_⟩
    show Cw _ _ _ _ _
    refine Cw.seq ?_
    refine Cw.cond (t := false) (by simp only [S0, Nat.reduceEqDiff, Nat.reduceAdd, reduceIte, reduceCtorEq, S1, g1_0, g1_7, g1_8, g1_9, g1_4]) ?_
    refine Cw.exit ?_
    show Cw _ _ _ _ _
    refine Cw.seq ?_
    refine Cw.seq ?_
    refine Cw.region ?_
    (refine Ow.popM rfl ?_; simp only [S0, Nat.reduceEqDiff, Nat.reduceAdd, reduceIte, reduceCtorEq, S1, g1_0, g1_7, g1_8, g1_9, g1_4])
    have fa_15 := fa.ext hx1
    refine Ow.callPA (k := 94) (fs := []) (cs := []) (vs := [va]) rfl rfl (by simp only [S0, Nat.reduceEqDiff, Nat.reduceAdd, reduceIte, reduceCtorEq, S1, g1_0, g1_7, g1_8, g1_9, g1_4]) (negative_any hx fa_15.wl (by first | omega | (simp only [SL]; omega))) ?_
    intro H14 hx14
    (refine Ow.popM rfl ?_; simp only [S0, Nat.reduceEqDiff, Nat.reduceAdd, reduceIte, reduceCtorEq, S1, g1_0, g1_7, g1_8, g1_9, g1_4])
    cases hd16 : (bx la (la.length - 1))
    · skip
      refine Ow.pass (by simp only [S0, Nat.reduceEqDiff, Nat.reduceAdd, reduceIte, reduceCtorEq, S1, g1_0, g1_7, g1_8, g1_9, g1_4, hd16]) ?_
      refine Ow.pass (by simp only [S0, Nat.reduceEqDiff, Nat.reduceAdd, reduceIte, reduceCtorEq, S1, g1_0, g1_7, g1_8, g1_9, g1_4, hd16]) ?_
      refine Ow.pass (by simp only [S0, Nat.reduceEqDiff, Nat.reduceAdd, reduceIte, reduceCtorEq, S1, g1_0, g1_7, g1_8, g1_9, g1_4, hd16]) ?_
      (refine Ow.popM rfl ?_; simp only [S0, Nat.reduceEqDiff, Nat.reduceAdd, reduceIte, reduceCtorEq, S1, g1_0, g1_7, g1_8, g1_9, g1_4, hd16])
      refine Ow.nilM ⟨nofun, ?_⟩
      show Cw _ _ _ _ _
      refine Cw.cond (t := false) (by simp only [S0, Nat.reduceEqDiff, Nat.reduceAdd, reduceIte, reduceCtorEq, S1, g1_0, g1_7, g1_8, g1_9, g1_4, hd16]) ?_
      refine Cw.skip ?_
      show Cw _ _ _ _ _
      refine Cw.seq ?_
      refine Cw.seq ?_
      refine Cw.region ?_
      (refine Ow.popM rfl ?_; simp only [S0, Nat.reduceEqDiff, Nat.reduceAdd, reduceIte, reduceCtorEq, S1, g1_0, g1_7, g1_8, g1_9, g1_4, hd16])
      have fa_18 := fa_15.ext hx14
      refine Ow.callPA (k := 94) (fs := []) (cs := []) (vs := [va]) rfl rfl (by simp only [S0, Nat.reduceEqDiff, Nat.reduceAdd, reduceIte, reduceCtorEq, S1, g1_0, g1_7, g1_8, g1_9, g1_4, hd16]) (negative_any hx fa_18.wl (by first | omega | (simp only [SL]; omega))) ?_
      intro H17 hx17
      refine Ow.nilM ⟨nofun, ?_⟩
      show Cw _ _ _ _ _
      refine Cw.cond (t := false) (by simp only [S0, Nat.reduceEqDiff, Nat.reduceAdd, reduceIte, reduceCtorEq, S1, g1_0, g1_7, g1_8, g1_9, g1_4, hd16]) ?_
      refine Cw.skip ?_
      show Cw _ _ _ _ _
      refine Cw.seq ?_
      refine Cw.region ?_
      iterate 3 (refine Ow.popM rfl ?_; simp only [S0, Nat.reduceEqDiff, Nat.reduceAdd, reduceIte, reduceCtorEq, S1, g1_0, g1_7, g1_8, g1_9, g1_4, hd16])
      refine Ow.nilM ⟨nofun, ?_⟩
      show Cw _ _ _ _ _
      refine Cw.ret ?_
      simp only [Then, InBlock, Rnd, FnPost, resOf, tupled, S0, Nat.reduceEqDiff, Nat.reduceAdd, reduceIte, reduceCtorEq, g1_0, g1_7, g1_8, g1_9, g1_4, hd16]
      refine ⟨((hx1.trans hx14).trans hx17), ?_⟩
      unfold intV
      have hsg : ng la = false := hd16
      have hv := val_lt la
      by_cases h63 : 63 ≤ la.length
      · rw [sval_high h63 hs, hsg]
        have hmm := Nat.mod_lt (val la) (Nat.two_pow_pos 63)
        simp only [Bool.false_eq_true, if_false, Int.sub_zero, Nat.min_eq_right h63]
        rw [if_pos (by omega)]
      · have h62 : 2 ^ la.length ≤ 2 ^ 62 := Nat.pow_le_pow_right (by decide) (by omega)
        rw [sval_pos hsg, if_pos (by omega), Nat.min_eq_left (by omega), Nat.mod_eq_of_lt hv]
    · skip
      (refine Ow.popM rfl ?_; simp only [S0, Nat.reduceEqDiff, Nat.reduceAdd, reduceIte, reduceCtorEq, S1, g1_0, g1_7, g1_8, g1_9, g1_4, hd16])
      have fa_19 := fa_15.ext hx14
      refine Ow.lenA (by simp only [S0, Nat.reduceEqDiff, Nat.reduceAdd, reduceIte, reduceCtorEq, S1, g1_0, g1_7, g1_8, g1_9, g1_4, hd16]) (by simp only [S0, Nat.reduceEqDiff, Nat.reduceAdd, reduceIte, reduceCtorEq, S1, g1_0, g1_7, g1_8, g1_9, g1_4, hd16]) fa_19 ?_
      iterate 2 (refine Ow.popM rfl ?_; simp only [S0, Nat.reduceEqDiff, Nat.reduceAdd, reduceIte, reduceCtorEq, S1, show decide ((((la.length : Nat) : Int) : Int) < (64 : Int)) = decide (la.length < 64) from lt_dec (la.length) (64), g1_0, g1_7, g1_8, g1_9, g1_4, hd16])
      refine Ow.nilM ⟨nofun, ?_⟩
      show Cw _ _ _ _ _
      by_cases hq20 : la.length < 64
      · have hd20 : decide (la.length < 64) = true := decide_eq_true hq20
        refine Cw.cond (t := true) (by simp only [S0, Nat.reduceEqDiff, Nat.reduceAdd, reduceIte, reduceCtorEq, S1, g1_0, g1_7, g1_8, g1_9, g1_4, hd16, hd20]) ?_
        refine Cw.seq ?_
        refine Cw.region ?_
        iterate 2 (refine Ow.popM rfl ?_; simp only [S0, Nat.reduceEqDiff, Nat.reduceAdd, reduceIte, reduceCtorEq, S1, g1_0, g1_7, g1_8, g1_9, g1_4, hd16, hd20])
        refine Ow.lenA rfl (by simp only [S0, Nat.reduceEqDiff, Nat.reduceAdd, reduceIte, reduceCtorEq, S1, g1_0, g1_7, g1_8, g1_9, g1_4, hd16, hd20]) fa_19 ?_
        have hsl := ng_len (l := la) hd16
        iterate 2 (refine Ow.popM rfl ?_; simp only [S0, Nat.reduceEqDiff, Nat.reduceAdd, reduceIte, reduceCtorEq, S1, show fwrap .i64 ((((la.length : Nat) : Int) : Int) - (1 : Int)) = ((la.length - 1 : Nat) : Int) from sub_nat (a := la.length) (b := 1) (by omega) (by omega), shl_i64 (show la.length - 1 < 63 by omega), g1_0, g1_7, g1_8, g1_9, g1_4, hd16, hd20])
        (refine Ow.popM rfl ?_; simp only [S0, Nat.reduceEqDiff, Nat.reduceAdd, reduceIte, reduceCtorEq, S1, g1_0, g1_7, g1_8, g1_9, g1_4, hd16, hd20])
        have hsg : ng la = true := hd16
        have hm : val la % 2 ^ min la.length 63 = val la := by rw [show min la.length 63 = la.length by omega, Nat.mod_eq_of_lt (val_lt la)]
        iterate 3 (refine Ow.popM rfl ?_; simp only [S0, Nat.reduceEqDiff, Nat.reduceAdd, reduceIte, reduceCtorEq, S1, hm, int_neg (ng_len hsg) (by omega) (val_lt la) (ng_half hsg), g1_0, g1_7, g1_8, g1_9, g1_4, hd16, hd20])
        refine Ow.nilM ⟨nofun, ?_⟩
        show Cw _ _ _ _ _
        refine Cw.ret ?_
        simp only [Then, InBlock, Rnd, FnPost, resOf, tupled, S0, Nat.reduceEqDiff, Nat.reduceAdd, reduceIte, reduceCtorEq, g1_0, g1_7, g1_8, g1_9, g1_4, hd16, hd20]
        refine ⟨(hx1.trans hx14), ?_⟩
        unfold intV
        have hsg : ng la = true := hd16
        have hv := val_lt la
        have hh := ng_half hsg
        have h63 : 2 ^ la.length ≤ 2 ^ 63 := Nat.pow_le_pow_right (by decide) (by omega)
        have hp : 2 ^ la.length = 2 * 2 ^ (la.length - 1) := by rw [← Nat.pow_succ', Nat.succ_eq_add_one, Nat.sub_add_cancel (ng_len hsg)]
        rw [sval_neg hsg, if_pos (by omega)]
      · have hd20 : decide (la.length < 64) = false := decide_eq_false hq20
        refine Cw.cond (t := false) (by simp only [S0, Nat.reduceEqDiff, Nat.reduceAdd, reduceIte, reduceCtorEq, S1, g1_0, g1_7, g1_8, g1_9, g1_4, hd16, hd20]) ?_
        refine Cw.skip ?_
        show Cw _ _ _ _ _
        refine Cw.seq ?_
        refine Cw.seq ?_
        refine Cw.region ?_
        (refine Ow.popM rfl ?_; simp only [S0, Nat.reduceEqDiff, Nat.reduceAdd, reduceIte, reduceCtorEq, S1, g1_0, g1_7, g1_8, g1_9, g1_4, hd16, hd20])
        refine Ow.callPA (k := 94) (fs := []) (cs := []) (vs := [va]) rfl rfl (by simp only [S0, Nat.reduceEqDiff, Nat.reduceAdd, reduceIte, reduceCtorEq, S1, g1_0, g1_7, g1_8, g1_9, g1_4, hd16, hd20]) (negative_any hx fa_19.wl (by first | omega | (simp only [SL]; omega))) ?_
        intro H21 hx21
        refine Ow.nilM ⟨nofun, ?_⟩
        show Cw _ _ _ _ _
        refine Cw.cond (t := true) (by simp only [S0, Nat.reduceEqDiff, Nat.reduceAdd, reduceIte, reduceCtorEq, S1, g1_0, g1_7, g1_8, g1_9, g1_4, hd16, hd20]) ?_
        refine Cw.seq ?_
        refine Cw.region ?_
        (refine Ow.popM rfl ?_; simp only [S0, Nat.reduceEqDiff, Nat.reduceAdd, reduceIte, reduceCtorEq, S1, g1_0, g1_7, g1_8, g1_9, g1_4, hd16, hd20])
        have hmm := Nat.mod_lt (val la) (Nat.two_pow_pos (min la.length 63))
        rw [show min la.length 63 = 63 by omega] at hmm
        have hmin : min la.length 63 = 63 := by omega
        iterate 4 (refine Ow.popM rfl ?_; simp only [S0, Nat.reduceEqDiff, Nat.reduceAdd, reduceIte, reduceCtorEq, S1, show fwrap .i64 (((val la % 2 ^ 63 : Nat) : Int) - 4611686018427387904) = ((val la % 2 ^ 63 : Nat) : Int) - 4611686018427387904 from fw64 (by omega) (by omega), show fwrap .i64 (((val la % 2 ^ 63 : Nat) : Int) - 4611686018427387904 - 4611686018427387904) = ((val la % 2 ^ 63 : Nat) : Int) - 4611686018427387904 - 4611686018427387904 from fw64 (by omega) (by omega), g1_0, g1_7, g1_8, g1_9, g1_4, hd16, hd20, hmin])
        refine Ow.nilM ⟨nofun, ?_⟩
        show Cw _ _ _ _ _
        refine Cw.ret ?_
        simp only [Then, InBlock, Rnd, FnPost, resOf, tupled, S0, Nat.reduceEqDiff, Nat.reduceAdd, reduceIte, reduceCtorEq, g1_0, g1_7, g1_8, g1_9, g1_4, hd16, hd20, hmin]
        refine ⟨((hx1.trans hx14).trans hx21), ?_⟩
        unfold intV
        have hsg : ng la = true := hd16
        have hv := val_lt la
        have hh := ng_half hsg
        rw [sval_high (by omega) hs, hsg]
        simp only [if_true]
        rw [if_pos (by omega)]
        rw [show ((val la % 2 ^ 63 : Nat) : Int) - (2 : Int) ^ 63 = ((val la % 2 ^ 63 : Nat) : Int) - 4611686018427387904 - 4611686018427387904 by omega]
end
end Go.Proofs.YtdgbdkfoeaollaaDoor.X
