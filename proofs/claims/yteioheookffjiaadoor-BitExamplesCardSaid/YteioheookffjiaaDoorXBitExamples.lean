/- BitExamples: the interpreter, run by the kernel, answers true. -/
import Derived.Test.YteioheookffjiaaDoorXT
namespace Go.Proofs.YteioheookffjiaaDoor.X
open Go Go.AL
theorem ex_run : isTrue (evF IR.ft noExt 1000 7 [] (rowH tabs)) = true := by kernel_rfl
theorem BitExamples_calls (W : World) (hG : Glob W) : Calls Tryd.prog 7 #[] W fun e W' => e = .returned (.bool true) ∧ Go.RowKit.Below W.heap.size W W' := law hG .nil ex_run
end Go.Proofs.YteioheookffjiaaDoor.X
