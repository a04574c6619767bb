/- Laws of equal and matching vectors, without a program. -/
import Derived.Test.YtdgbdkfoeaollaaGreatDoorVH
set_option linter.unusedSimpArgs false
set_option linter.unusedVariables false
namespace Go.Proofs.YtdgbdkfoeaollaaGreatDoor.V
open Go Go.AL Go.SX
theorem eqF_iff {p : Int → Int → Bool} {l m : List Int} (h : l.length = m.length) : eqF p l m = true ↔ ∀ i : Nat, i < l.length → p (gu l i) (gu m i) = true := by
  unfold eqF
  simp [h]
theorem mXY {l : List Int} {s : Bool} {m : List Int} {t : Bool} : (bX l s m t).length = (bY l s m t).length := by rw [bX_len, bY_len]
end Go.Proofs.YtdgbdkfoeaollaaGreatDoor.V
