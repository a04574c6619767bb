/- VecUnknown: its states (printed by VUnk.py). -/
import Derived.Test.YtdgbdkfoeaollaaGreatDoorVZe
import Derived.Test.YtdgbdkfoeaollaaGreatDoorVJ
import Derived.Test.YtdgbdkfoeaollaaGreatDoorVW
import Derived.Test.YtdgbdkfoeaollaaGreatDoorALe
set_option linter.unusedSimpArgs false
set_option linter.unusedVariables false
set_option cbv.maxSteps 4000000
set_option maxRecDepth 100000
set_option maxHeartbeats 4000000
namespace Go.Proofs.YtdgbdkfoeaollaaGreatDoor.V
open Go Go.AL Go.SX
def stU (l m X N : List Int) (s t x n : Bool) (j : Nat) : SX.St := ⟨((((((T.nil.set 2 (SV.o 0 0)).set 3 (.o 1 0)).set 5 (.o 6 0)).set 6 (.o 7 0)).set 27 (.os 8 0 24 2)).set 28 (.n .i64 24)).set 29 (.n .i64 j),
  [.x [.u l, .b s], .x [.u m, .b t], .dead, .dead, .u X, .u N, .x [.s 4, .b x], .x [.s 5, .b n], .x twosL]⟩
def stV (l m X N : List Int) (s t x n : Bool) : SX.St := ⟨(((T.nil.set 2 (SV.o 0 0)).set 3 (.o 1 0)).set 5 (.o 6 0)).set 6 (.o 7 0),
  [.x [.u l, .b s], .x [.u m, .b t], .dead, .dead, .u X, .u N, .x [.s 4, .b x], .x [.s 5, .b n]]⟩
end Go.Proofs.YtdgbdkfoeaollaaGreatDoor.V
