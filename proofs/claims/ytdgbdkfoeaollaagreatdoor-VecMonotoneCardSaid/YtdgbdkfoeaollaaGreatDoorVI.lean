/- The reference's Same; the laws' helpers. -/
import Derived.Test.YtdgbdkfoeaollaaGreatDoorVH
import Derived.Test.YtdgbdkfoeaollaaGreatDoorALe
set_option linter.unusedSimpArgs false
set_option linter.unusedVariables false
namespace Go.Proofs.YtdgbdkfoeaollaaGreatDoor.V
open Go Go.AL Go.SX
/-- The result is known. -/
theorem kbr {k : Nat} {args : List SV} {ao : List SX.Obj} {p c : Bool} (h : FvC CX TB (.f k [] []) args ao (RB p)) (e : p = c) : FvC CX TB (.f k [] []) args ao (fun r ro => r = .kb c ∧ ro = []) := by
  intro H m vf vs h1 h2 h3 h4
  obtain ⟨k', fs, cs, e', hr⟩ := h H m vf vs h1 h2 h3 h4
  refine ⟨k', fs, cs, e', hr.mono ?_⟩
  rintro v H' ⟨m', r, ro, ⟨x, rfl, rfl, hx⟩, q1, q2, q3, q4, q5⟩
  exact ⟨m', .kb c, [], ⟨rfl, rfl⟩, q1, q2, by rw [hx, e] at q3; exact q3, q4, q5⟩
/-- What is behind the first n pieces. -/
def dropC : Nat → IC → IC
  | n + 1, .seq _ b => dropC n b
  | _, c => c
end Go.Proofs.YtdgbdkfoeaollaaGreatDoor.V
