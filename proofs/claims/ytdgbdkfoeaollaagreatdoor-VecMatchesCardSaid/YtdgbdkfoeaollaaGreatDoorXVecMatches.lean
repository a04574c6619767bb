/- VecMatches: the call. -/
import Derived.Test.YtdgbdkfoeaollaaGreatDoorVMat
import Derived.Test.YtdgbdkfoeaollaaGreatDoorVL
namespace Go.Proofs.YtdgbdkfoeaollaaGreatDoor.X
open Go Go.AL
theorem VecMatches_calls (W:World) (A0:Option Addr) (c0:Nat) (s0:Bool) (l0:List Int) (A1:Option Addr) (c1:Nat) (s1:Bool) (l1:List Int) (hG:Glob W) (hr0:RowAt W A0 l0.length c0 (l0.map (.int .u8))) (b0:∀ y∈l0,0≤y) (hr1:RowAt W A1 l1.length c1 (l1.map (.int .u8))) (b1:∀ y∈l1,0≤y) :
  Calls Tryz.prog 9 #[.agg #[.slice A0 l0.length c0,.bool s0],.agg #[.slice A1 l1.length c1,.bool s1]] W fun e W'=>e=.returned (.bool true)∧Go.RowKit.Below W.heap.size W W':=
 V.law_args [.v A0 c0 s0 l0,.v A1 c1 s1 l1] hG (V.rows_cons hr0 (V.rows_cons hr1 V.rows_nil)) (V.mat_law l0 l1 s0 s1 b0 b1)
end Go.Proofs.YtdgbdkfoeaollaaGreatDoor.X
