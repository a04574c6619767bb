/- Laws of shifts. -/
import Derived.Test.YteeckncfllbokaaXY
set_option linter.unusedSimpArgs false
set_option linter.unusedVariables false
namespace Go.Proofs.Yteeckncfllbokaa.X
open Go Go.AL
theorem bx_shrF {la : List Bool} {s i : Nat} {f : Bool} (hi : i < la.length) : bx (shrF la s f) i = if i + s < la.length then bx la (i + s) else f := by
  simp [bx, shrF, List.getD_eq_getElem?_getD, hi]
/-- A shift to the right is a division. -/
theorem shrF_N (la : List Bool) (s : Nat) : shrF la s false = ofN la.length (val la / 2 ^ s) := by
  refine ext_bits (by rw [shrF_length, ofN_length]) (fun i hi => ?_)
  rw [shrF_length] at hi
  rw [bx_shrF hi, bx_ofN, Nat.testBit_div_two_pow, val_bit]
  by_cases h : i + s < la.length
  · simp [h, hi]
  · rw [if_neg h, bx_ge h]; simp
/-- The last bit stays. -/
theorem shrF_last (la : List Bool) (s : Nat) : bx (shrF la s (bx la (la.length - 1))) ((shrF la s (bx la (la.length - 1))).length - 1) = bx la (la.length - 1) := by
  rw [shrF_length]
  by_cases h : la.length - 1 < la.length
  · rw [bx_shrF h]
    split
    · rw [show la.length - 1 + s = la.length - 1 by omega]
    · rfl
  · rw [bx_ge h]
    exact bx_ge (by rw [shrF_length]; exact h)
/-- Shifts add up. -/
theorem shrF_shrF (la : List Bool) (s t : Nat) (f : Bool) : shrF (shrF la s f) t f = shrF la (s + t) f := by
  refine ext_bits (by simp only [shrF_length]) (fun i hi => ?_)
  rw [shrF_length, shrF_length] at hi
  rw [bx_shrF (by rw [shrF_length]; exact hi), bx_shrF hi, shrF_length]
  by_cases h : i + t < la.length
  · rw [if_pos h, bx_shrF h, show i + t + s = i + (s + t) by omega]
  · rw [if_neg h, if_neg (by omega)]
/-- A shift by the width or more -/
theorem shrF_out {la : List Bool} {s : Nat} (f : Bool) (h : la.length ≤ s) : shrF la s f = List.replicate la.length f := by
  apply List.ext_getElem?
  intro i
  by_cases hi : i < la.length
  · rw [bx_lt (by rw [shrF_length]; exact hi), bx_shrF hi, if_neg (by omega), List.getElem?_replicate, if_pos hi]
  · rw [List.getElem?_eq_none (by rw [shrF_length]; omega), List.getElem?_eq_none (by simp; omega)]
theorem shl_shl (n v s t : Nat) : ofN n (val (ofN n (v * 2 ^ s)) * 2 ^ t) = ofN n (v * 2 ^ (s + t)) := by
  refine ofN_eq ?_
  rw [val_ofN, Nat.mul_mod, Nat.mod_mod, ← Nat.mul_mod, Nat.mul_assoc, ← Nat.pow_add]
theorem rep_N (n : Nat) : List.replicate n false = ofN n 0 := by
  have e := big_zero n n 0 (Nat.le_refl _)
  rwa [Nat.zero_mul] at e
variable {ext : Nat → Option (List Value → AH → Option (Value × AH))}
/-- Same, of equal vectors -/
theorem same_T (hx : Ext0 ext) {H : AH} {va vb : Value} {la lb : List Bool} (ha : IsB H va la) (hb : IsB H vb lb) (hl : la.length < 2 ^ 36) (h : la = lb) : Run (Cx ext) 20 [va, vb] H fun r H' => H' = H ∧ r = .bool true := by
  have h1 := same_any hx ha hb hl
  rw [decide_eq_true h] at h1
  exact h1
theorem fw_u8 {a : Nat} (h : a < 256) : fwrap .u8 (a : Int) = (a : Int) := by
  unfold fwrap
  have : inKind .u8 (a : Int) = true := by
    show Nat.blt a 256 = true
    exact Nat.ble_eq_true_of_le (by omega)
  rw [this]; rfl
/-- The number with n bits that are f. -/
def fills (n : Nat) (f : Bool) : Nat := if f then 2 ^ n - 1 else 0
theorem fills_bit {n i : Nat} {f : Bool} (h : i < n) : (fills n f).testBit i = f := by
  cases f with
  | true => unfold fills; rw [if_pos rfl, Nat.testBit_two_pow_sub_one]; simp [h]
  | false => unfold fills; rw [if_neg (by decide), Nat.zero_testBit]
theorem fills_N (n : Nat) (f : Bool) : ofN n (fills n f) = List.replicate n f := by
  apply List.ext_getElem?
  intro i
  by_cases h : i < n
  · rw [ofN_get h, fills_bit h, List.getElem?_replicate, if_pos h]
  · rw [List.getElem?_eq_none (by rw [ofN_length]; omega), List.getElem?_eq_none (by simp; omega)]
end Go.Proofs.Yteeckncfllbokaa.X
