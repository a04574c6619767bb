/- VecExamples: the call. -/
import Derived.Test.YtdgbdkfoeaollaaGreatDoorVEx
import Derived.Test.YtdgbdkfoeaollaaGreatDoorVL
namespace Go.Proofs.YtdgbdkfoeaollaaGreatDoor.X
open Go Go.AL
theorem VecExamples_calls (W:World) (hG:Glob W):Calls Tryz.prog 4 #[] W fun e W'=>e=.returned (.bool true)∧Go.RowKit.Below W.heap.size W W':=
 V.law_args [] hG V.rows_nil V.ex_law
end Go.Proofs.YtdgbdkfoeaollaaGreatDoor.X
