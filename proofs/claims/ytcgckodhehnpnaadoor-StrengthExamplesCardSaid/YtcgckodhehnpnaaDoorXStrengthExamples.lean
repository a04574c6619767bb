/- StrengthExamples: the interpreter, run by the kernel, answers true. -/
import Derived.Test.YtcgckodhehnpnaaDoorXT
namespace Go.Proofs.YtcgckodhehnpnaaDoor.X
open Go Go.AL
theorem ex_run : isTrue (evF IR.ft noExt 1000 9 [] (rowH tabs)) = true := by kernel_rfl
theorem StrengthExamples_calls (W : World) (hG : Glob W) : Calls Tryd.prog 9 #[] W fun e W' => e = .returned (.bool true) ∧ Go.RowKit.Below W.heap.size W W' := law hG .nil ex_run
end Go.Proofs.YtcgckodhehnpnaaDoor.X
