/- Vectors as natural numbers. -/
import Derived.Test.YteeckncfllbokaaXA
set_option linter.unusedSimpArgs false
set_option linter.unusedVariables false
namespace Go.Proofs.Yteeckncfllbokaa.X
open Go Go.AL
/-- The number that a vector stands for. -/
def val : List Bool → Nat
  | [] => 0
  | b :: r => b.toNat + 2 * val r
/-- The lowest n bits of a number. -/
def ofN (n x : Nat) : List Bool := (List.range n).map fun i => x.testBit i
theorem ofN_length (n x : Nat) : (ofN n x).length = n := by simp [ofN]
theorem ofN_get {n x i : Nat} (h : i < n) : (ofN n x)[i]? = some (x.testBit i) := by simp [ofN, h]
theorem val_bit : ∀ (l : List Bool) (i : Nat), (val l).testBit i = bx l i
  | [], i => by simp [val, bx]
  | b :: r, 0 => by
    unfold val bx
    simp [Nat.testBit_zero]
    cases b <;> simp <;> omega
  | b :: r, i + 1 => by
    have h := val_bit r i
    unfold val
    have e : (b.toNat + 2 * val r) / 2 = val r := by cases b <;> simp <;> omega
    rw [Nat.testBit_succ, e, h]
    simp [bx]
theorem val_lt : ∀ (l : List Bool), val l < 2 ^ l.length
  | [] => by simp [val]
  | b :: r => by
    have h := val_lt r
    unfold val
    simp only [List.length_cons, Nat.pow_succ]
    cases b <;> simp <;> omega
theorem ext_bits {l m : List Bool} (hl : l.length = m.length) (h : ∀ i, i < l.length → bx l i = bx m i) : l = m := by
  apply List.ext_getElem?
  intro i
  by_cases hi : i < l.length
  · rw [bx_lt hi, bx_lt (by omega), h i hi]
  · rw [List.getElem?_eq_none (by omega), List.getElem?_eq_none (by omega)]
theorem ofN_val (l : List Bool) : ofN l.length (val l) = l := by
  refine ext_bits (ofN_length _ _) (fun i hi => ?_)
  rw [ofN_length] at hi
  have := ofN_get (x := val l) hi
  simp only [bx, List.getD_eq_getElem?_getD, this, Option.getD_some]
  rw [val_bit]; simp [bx]
theorem bx_ofN {n x i : Nat} : bx (ofN n x) i = (decide (i < n) && x.testBit i) := by
  by_cases h : i < n
  · simp [bx, List.getD_eq_getElem?_getD, ofN_get h, h]
  · simp [bx, List.getD_eq_getElem?_getD, ofN, h]
theorem val_ofN (n x : Nat) : val (ofN n x) = x % 2 ^ n := by
  apply Nat.eq_of_testBit_eq
  intro i
  rw [val_bit, bx_ofN, Nat.testBit_mod_two_pow]
theorem ofN_mod (n x : Nat) : ofN n (x % 2 ^ n) = ofN n x := by
  refine ext_bits (by simp [ofN_length]) (fun i hi => ?_)
  rw [ofN_length] at hi
  rw [bx_ofN, bx_ofN, Nat.testBit_mod_two_pow]
  simp [hi]
theorem ofN_eq {n x y : Nat} (h : x % 2 ^ n = y % 2 ^ n) : ofN n x = ofN n y := by rw [← ofN_mod n x, h, ofN_mod]
theorem val_inj {l m : List Bool} (hl : l.length = m.length) (h : val l = val m) : l = m := by
  refine ext_bits hl (fun i _ => ?_)
  rw [← val_bit, ← val_bit, h]
/-- The first k bits of S, and false behind them. -/
def outk (n S k : Nat) : List Bool := (List.range n).map fun i => decide (i < k) && S.testBit i
theorem outk_length (n S k : Nat) : (outk n S k).length = n := by simp [outk]
theorem outk_zero (n S : Nat) : outk n S 0 = List.replicate n false := by
  apply List.ext_getElem?
  intro i
  by_cases h : i < n <;> simp [outk, h, List.getElem?_replicate]
theorem outk_full (n S : Nat) : outk n S n = ofN n S := by
  refine List.map_congr_left fun i hi => ?_
  simp [List.mem_range.1 hi]
theorem outk_set {n S k : Nat} (h : k < n) : (outk n S k).set k (S.testBit k) = outk n S (k + 1) := by
  apply List.ext_getElem?
  intro i
  rw [List.getElem?_set]
  by_cases hik : k = i
  · subst hik
    simp [outk, h]
  · rw [if_neg hik]
    by_cases hi : i < n
    · simp only [outk, List.getElem?_map, List.getElem?_range hi, Option.map_some]
      have : (i < k + 1) ↔ (i < k) := by omega
      simp [this]
    · simp [outk, hi]
/-- The carry into place k of X + Y + c. -/
def cy (X Y : Nat) (c : Bool) (k : Nat) : Bool := decide (2 ^ k ≤ X % 2 ^ k + Y % 2 ^ k + c.toNat)
theorem cy_zero (X Y : Nat) (c : Bool) : cy X Y c 0 = c := by cases c <;> simp [cy, Nat.mod_one]
theorem full_add (X Y : Nat) (c : Bool) (k : Nat) : (X + Y + c.toNat).testBit k = ((X.testBit k != Y.testBit k) != cy X Y c k) ∧
    cy X Y c (k + 1) = (X.testBit k && Y.testBit k || (cy X Y c k && (X.testBit k || Y.testBit k))) := by
  have hx : X % 2 ^ (k + 1) = X % 2 ^ k + 2 ^ k * (X.testBit k).toNat := by
    rw [Nat.mod_pow_succ]
    congr 1
    rw [Nat.testBit_eq_decide_div_mod_eq]
    rcases Nat.mod_two_eq_zero_or_one (X / 2 ^ k) with h | h <;> rw [h] <;> simp
  have hy : Y % 2 ^ (k + 1) = Y % 2 ^ k + 2 ^ k * (Y.testBit k).toNat := by
    rw [Nat.mod_pow_succ]
    congr 1
    rw [Nat.testBit_eq_decide_div_mod_eq]
    rcases Nat.mod_two_eq_zero_or_one (Y / 2 ^ k) with h | h <;> rw [h] <;> simp
  have lx := Nat.mod_lt X (Nat.two_pow_pos k)
  have ly := Nat.mod_lt Y (Nat.two_pow_pos k)
  have hs : (X + Y + c.toNat).testBit k = ((X % 2 ^ (k + 1) + Y % 2 ^ (k + 1) + c.toNat).testBit k) := by
    have h1 := Nat.testBit_mod_two_pow (X + Y + c.toNat) (k + 1) k
    have h2 := Nat.testBit_mod_two_pow (X % 2 ^ (k + 1) + Y % 2 ^ (k + 1) + c.toNat) (k + 1) k
    simp only [Nat.lt_succ_self, decide_true, Bool.true_and] at h1 h2
    rw [← h1, ← h2]
    congr 1
    simp [Nat.add_mod]
  rw [hs, hx, hy]
  unfold cy
  rw [hx, hy, Nat.pow_succ]
  generalize hxm : X % 2 ^ k = x at *
  generalize hym : Y % 2 ^ k = y at *
  generalize hP : 2 ^ k = P at *
  have hdiv : ∀ z q, z < P → (z + P * q).testBit k = decide (q % 2 = 1) := by
    intro z q hz
    rw [Nat.testBit_eq_decide_div_mod_eq, hP]
    have : (z + P * q) / P = q := by
      rw [Nat.add_mul_div_left _ _ (by omega), Nat.div_eq_of_lt hz, Nat.zero_add]
    rw [this]
  have hc : c.toNat ≤ 1 := by cases c <;> simp
  by_cases hcar : P ≤ x + y + c.toNat
  · have e : ∀ m : Nat, x + P * (X.testBit k).toNat + (y + P * (Y.testBit k).toNat) + c.toNat = (x + y + c.toNat - P) + P * (1 + (X.testBit k).toNat + (Y.testBit k).toNat) := by
      intro m
      rw [Nat.mul_add, Nat.mul_add, Nat.mul_one]
      omega
    rw [e 0, hdiv _ _ (by omega)]
    cases X.testBit k <;> cases Y.testBit k <;> simp [hcar] <;> omega
  · have e : x + P * (X.testBit k).toNat + (y + P * (Y.testBit k).toNat) + c.toNat = (x + y + c.toNat) + P * ((X.testBit k).toNat + (Y.testBit k).toNat) := by
      rw [Nat.mul_add]
      omega
    rw [e, hdiv _ _ (by omega)]
    cases X.testBit k <;> cases Y.testBit k <;> simp [hcar] <;> omega
end Go.Proofs.Yteeckncfllbokaa.X
