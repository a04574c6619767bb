/- The examples: the interpreter, run by the kernel, answers true. -/
import Derived.Test.YteeckncfllbokaaIR
namespace Go.Proofs.Yteeckncfllbokaa.X
open Go Go.AL Go.RowKit
def isTrue : Option (Value × AH) → Bool
  | some (.bool true, _) => true
  | _ => false
theorem isTrue_some {r : Option (Value × AH)} (h : isTrue r = true) : ∃ H, r = some (.bool true, H) := by
  unfold isTrue at h
  split at h
  · exact ⟨_, rfl⟩
  · cases h
theorem ex_run : isTrue (evF IR.ft noExt 1000 11 [] ⟨.nil, 0, 0⟩) = true := by kernel_rfl
theorem BvExamples_calls (W : World) : Calls Try.prog 11 #[] W fun e W' => e = .returned (.bool true) ∧ Below W.heap.size W W' := by
  obtain ⟨H, h⟩ := isTrue_some ex_run
  exact top_calls (evF_sim IR.mixed IR.ft_ok (fun f g hg => by cases hg) 1000) rfl h .nil (rel_empty W (by kernel_rfl)) (fun _ _ => rfl) (fun id bk hb => by cases hb)
end Go.Proofs.Yteeckncfllbokaa.X
