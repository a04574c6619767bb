/- VecCases: the call. -/
import Derived.Test.YtdgbdkfoeaollaaDoorVCases
import Derived.Test.YtdgbdkfoeaollaaDoorVL
namespace Go.Proofs.YtdgbdkfoeaollaaDoor.X
open Go Go.AL
theorem VecCases_calls (W : World) (A0 : Option Addr) (c0 : Nat) (s0 : Bool) (l0 : List Int) (A1 : Option Addr) (c1 : Nat) (s1 : Bool) (l1 : List Int) (hG : Glob W) (hr0 : RowAt W A0 l0.length c0 (l0.map (.int .u8))) (b0 : ∀ y ∈ l0, 0 ≤ y) (hr1 : RowAt W A1 l1.length c1 (l1.map (.int .u8))) (b1 : ∀ y ∈ l1, 0 ≤ y) :
    Calls Tryd.prog 5 #[.agg #[.slice A0 l0.length c0, .bool s0], .agg #[.slice A1 l1.length c1, .bool s1]] W fun e W' => e = .returned (.bool true) ∧ Go.RowKit.Below W.heap.size W W' :=
  V.law_vec2 hG hr0 hr1 (V.law_ok l0 l1 s0 s1 b0 b1)
end Go.Proofs.YtdgbdkfoeaollaaDoor.X
