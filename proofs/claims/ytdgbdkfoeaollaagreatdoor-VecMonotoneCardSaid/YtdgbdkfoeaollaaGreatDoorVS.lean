/- Plain laws of slices, concatenation and resizing. -/
import Derived.Test.YtdgbdkfoeaollaaGreatDoorVO
set_option linter.unusedSimpArgs false
set_option linter.unusedVariables false
namespace Go.Proofs.YtdgbdkfoeaollaaGreatDoor.V
open Go Go.AL Go.SX
theorem gu_app {l m : List Int} {i : Nat} : gu (l ++ m) i = if i < l.length then gu l i else gu m (i - l.length : Nat) := by
  unfold gu
  simp only [Int.toNat_natCast]
  split
  · rename_i h; rw [List.getElem?_append_left h]
  · rename_i h; rw [List.getElem?_append_right (by omega)]
theorem rsz_kn {X : List Int} {s : Bool} {w : Nat} (hX : NV X) (h : X.length ≤ w) : kn (rsz X s w) = kn X := by
  unfold rsz
  split
  · rename_i h2
    have : w = X.length := by omega
    subst this
    rw [List.take_length]
  · unfold kn
    rw [List.all_append]
    cases hk : X.all bKn with
    | false => rfl
    | true =>
      rw [Bool.true_and, List.all_eq_true]
      intro x hx
      rw [(List.mem_replicate.1 hx).2]
      unfold top
      split
      · exact List.all_eq_true.1 hk _ (gu_mem (by have := List.length_pos_iff.2 hX.ne; omega))
      · rfl
end Go.Proofs.YtdgbdkfoeaollaaGreatDoor.V
