/- BitBoolean: the interpreter, run by the kernel on all eight inputs, answers true. -/
import Derived.Test.YteioheookffjiaaDoorXT
namespace Go.Proofs.YteioheookffjiaaDoor.X
open Go Go.AL
theorem bool_run : ∀ a b c : Bool, isTrue (evF IR.ft noExt 1000 10 [.bool a, .bool b, .bool c] (rowH tabs)) = true := by
  intro a b c
  cases a <;> cases b <;> cases c <;> kernel_rfl
theorem BitBoolean_calls (W : World) (a b c : Bool) (hG : Glob W) : Calls Tryd.prog 10 #[.bool a, .bool b, .bool c] W fun e W' => e = .returned (.bool true) ∧ Go.RowKit.Below W.heap.size W W' :=
  law hG (.cons (.bool a) (.cons (.bool b) (.cons (.bool c) .nil))) (bool_run a b c)
end Go.Proofs.YteioheookffjiaaDoor.X
