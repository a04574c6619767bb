/- Plain laws of slices, concatenation and resizing. -/
import Derived.Test.YtdgbdkfoeaollaaGreatDoorVO
set_option linter.unusedSimpArgs false
set_option linter.unusedVariables false
namespace Go.Proofs.YtdgbdkfoeaollaaGreatDoor.V
open Go Go.AL Go.SX
theorem gu_app {l m : List Int} {i : Nat} : gu (l ++ m) i = if i < l.length then gu l i else gu m (i - l.length : Nat) := by
  unfold gu
  simp only [Int.toNat_natCast]
  split
  · rename_i h; rw [List.getElem?_append_left h]
  · rename_i h; rw [List.getElem?_append_right (by omega)]
theorem app_nv {l m : List Int} (hl : NV l) (hm : NV m) (h : l.length + m.length ≤ 128) : NV (l ++ m) :=
  ⟨fun e => hl.ne (List.append_eq_nil_iff.1 e).1, by rw [List.length_append]; exact h, fun x hx => (List.mem_append.1 hx).elim (hl.v x) (hm.v x)⟩
theorem win_ok {hi lo : Int} (h1 : lo ≤ hi) (h2 : hi - lo < 128) : win hi lo = 0 := by rw [win, if_neg (by omega), if_neg (by omega)]
theorem slc_in {L : List Int} {hi lo : Int} {a b : Nat} (ha : lo = (a : Int)) (hb : hi = (a : Int) + (b : Int) - 1) (h : a + b ≤ L.length) : slc L hi lo = (L.drop a).take b := by
  have hn : (hi - lo + 1).toNat = b := by omega
  refine gu_ext (by rw [slc_len, List.length_take, List.length_drop, hn]; omega) fun i hlt => ?_
  rw [slc_len, hn] at hlt
  rw [slc_get (by omega), gu_take hlt, gu_drop, slF, if_pos (by omega), ha]
  rfl
theorem slc_nv {L : List Int} {hi lo : Int} (hL : NV L) (h : win hi lo = 0) : NV (slc L hi lo) := by
  have hw := win_zero h
  refine ⟨fun e => ?_, by rw [slc_len]; omega, fun x hx => ?_⟩
  · have := congrArg List.length e
    rw [slc_len] at this; simp at this; omega
  · obtain ⟨i, hi', rfl⟩ := List.mem_map.1 hx
    unfold slF
    split
    · rename_i h2
      obtain ⟨k, hk⟩ : ∃ k : Nat, lo + (i : Int) = (k : Int) := ⟨(lo + (i : Int)).toNat, by omega⟩
      rw [hk]; exact hL.v _ (gu_mem (by omega))
    · constructor <;> decide
theorem putL_nv {A : List Int} {lo : Int} {F : List Int} (hA : NV A) (hF : NV F) : NV (putL A lo F) := by
  refine ⟨fun e => ?_, by rw [putL_len]; exact hA.len, fun x hx => ?_⟩
  · have := congrArg List.length e
    rw [putL_len] at this; exact hA.ne (List.length_eq_zero_iff.1 this)
  · obtain ⟨i, hi', rfl⟩ := List.mem_map.1 hx
    rw [List.mem_range] at hi'
    unfold ptF
    split
    · rename_i h2
      obtain ⟨k, hk⟩ : ∃ k : Nat, (i : Int) - lo = (k : Int) := ⟨((i : Int) - lo).toNat, by omega⟩
      rw [hk]; exact hF.v _ (gu_mem (by omega))
    · exact hA.v _ (gu_mem hi')
/-- Putting a slice back. -/
theorem put_slc {X : List Int} {hi lo : Int} {g : Bool} (hX : NV X) (h0 : 0 ≤ lo) (h1 : lo ≤ hi) (h2 : hi < (X.length : Int)) : putL X lo (rsz (slc X hi lo) g (hi - lo + 1).toNat) = X := by
  have e : rsz (slc X hi lo) g (hi - lo + 1).toNat = slc X hi lo := by
    unfold rsz; rw [slc_len, if_pos (Nat.le_refl _)]
    exact List.take_of_length_le (by rw [slc_len]; exact Nat.le_refl _)
  rw [e]
  refine gu_ext (by rw [putL_len]) fun i hlt => ?_
  rw [putL_len] at hlt
  rw [putL_get hlt, ptF, slc_len]
  split
  · rename_i h
    obtain ⟨k, hk⟩ : ∃ k : Nat, (i : Int) - lo = (k : Int) := ⟨((i : Int) - lo).toNat, by omega⟩
    rw [hk, slc_get (by omega), slF, if_pos (by omega)]
    congr 1; omega
  · rfl
theorem rsz_same {X : List Int} {s : Bool} : rsz X s X.length = X := by unfold rsz; rw [if_pos (Nat.le_refl _), List.take_length]
theorem rsz_back {X : List Int} {s t : Bool} {w : Nat} (h : X.length ≤ w) : rsz (rsz X s w) t X.length = X := by
  by_cases h1 : w ≤ X.length
  · have : w = X.length := by omega
    subst this
    rw [rsz_same, rsz_same]
  · have e : rsz X s w = X ++ List.replicate (w - X.length) (top X s) := by unfold rsz; rw [if_neg h1]
    rw [e]
    unfold rsz
    rw [if_pos (by rw [List.length_append]; omega), List.take_left]
theorem rsz_kn {X : List Int} {s : Bool} {w : Nat} (hX : NV X) (h : X.length ≤ w) : kn (rsz X s w) = kn X := by
  unfold rsz
  split
  · rename_i h2
    have : w = X.length := by omega
    subst this
    rw [List.take_length]
  · unfold kn
    rw [List.all_append]
    cases hk : X.all bKn with
    | false => rfl
    | true =>
      rw [Bool.true_and, List.all_eq_true]
      intro x hx
      rw [(List.mem_replicate.1 hx).2]
      unfold top
      split
      · exact List.all_eq_true.1 hk _ (gu_mem (by have := List.length_pos_iff.2 hX.ne; omega))
      · rfl
theorem val_app : ∀ (l m : List Bool), X.val (l ++ m) = X.val l + 2 ^ l.length * X.val m
  | [], m => by simp [X.val]
  | b :: l, m => by
    rw [List.cons_append]
    simp only [X.val, List.length_cons, val_app l m, Nat.pow_succ]
    rw [Nat.mul_add]
    have : 2 * (2 ^ l.length * X.val m) = 2 ^ l.length * 2 * X.val m := by rw [← Nat.mul_assoc, Nat.mul_comm 2]
    omega
theorem val_rf (k : Nat) : X.val (List.replicate k false) = 0 := by
  induction k with
  | zero => rfl
  | succ k ih => rw [List.replicate_succ]; simp only [X.val, ih]; rfl
theorem val_rt (k : Nat) : X.val (List.replicate k true) + 1 = 2 ^ k := by
  induction k with
  | zero => rfl
  | succ k ih => rw [List.replicate_succ, Nat.pow_succ]; simp only [X.val]; have : true.toNat = 1 := rfl; omega
theorem ng_last {l : List Bool} {b : Bool} {k : Nat} (h : 0 < k) : X.ng (l ++ List.replicate k b) = b := by
  unfold X.ng X.bx
  rw [List.length_append, List.length_replicate, List.getD_eq_getElem?_getD, List.getElem?_append_right (by omega), List.getElem?_replicate, if_pos (by omega)]
  rfl
theorem sval_ext {l : List Bool} {k : Nat} (hl : 0 < l.length) : X.sval (l ++ List.replicate k (X.ng l)) = X.sval l := by
  rcases Nat.eq_zero_or_pos k with rfl | hk
  · simp
  cases h : X.ng l with
  | false =>
    rw [X.sval_pos (ng_last hk), X.sval_pos h, val_app, val_rf, Nat.mul_zero, Nat.add_zero]
  | true =>
    rw [X.sval_neg (ng_last hk), X.sval_neg h, val_app, List.length_append, List.length_replicate, Nat.pow_add]
    have h1 := val_rt k
    rw [← h1, Nat.mul_add, Nat.mul_one]
    generalize 2 ^ l.length * X.val (List.replicate k true) = z
    omega
theorem boolL_rsz {L : List Int} {s : Bool} {w : Nat} (h : ¬ w ≤ L.length) : boolL (rsz L s w) = boolL L ++ List.replicate (w - L.length) (top L s == 1) := by
  unfold rsz boolL
  rw [if_neg h, List.map_append, List.map_replicate]
theorem vval_rsz {L : List Int} {s : Bool} {w : Nat} (hL : NV L) (h : L.length ≤ w) : vval (rsz L s w) s = vval L s := by
  by_cases h2 : w ≤ L.length
  · have : w = L.length := by omega
    subst this
    unfold rsz; rw [if_pos (Nat.le_refl _), List.take_length]
  have hp := List.length_pos_iff.2 hL.ne
  unfold vval
  rw [boolL_rsz h2]
  cases s with
  | false =>
    rw [if_neg (by simp), if_neg (by simp), val_app]
    have : (top L false == 1) = false := rfl
    rw [this, val_rf, Nat.mul_zero, Nat.add_zero]
  | true =>
    rw [if_pos rfl, if_pos rfl]
    have : (top L true == 1) = X.ng (boolL L) := by
      unfold top X.ng X.bx
      rw [if_pos rfl, boolL_len, List.getD_eq_getElem?_getD]
      unfold boolL gu
      rw [List.getElem?_map, Int.toNat_natCast, List.getElem?_eq_getElem (by omega)]
      rfl
    rw [this]
    exact sval_ext (by rw [boolL_len]; exact hp)
end Go.Proofs.YtdgbdkfoeaollaaGreatDoor.V
