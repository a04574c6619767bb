/- VecMonotone: its states (printed by VMon.py). -/
import Derived.Test.YtdgbdkfoeaollaaGreatDoorVMc
import Derived.Test.YtdgbdkfoeaollaaGreatDoorVU
import Derived.Test.YtdgbdkfoeaollaaGreatDoorVW
import Derived.Test.YtdgbdkfoeaollaaGreatDoorALe
set_option linter.unusedSimpArgs false
set_option linter.unusedVariables false
set_option cbv.maxSteps 4000000
set_option maxRecDepth 100000
set_option maxHeartbeats 4000000
namespace Go.Proofs.YtdgbdkfoeaollaaGreatDoor.V
open Go Go.AL Go.SX
def objM (e a b e' a' b' : List Int) (r s t : Bool) : List SX.Obj := [.x [.u e, .b r], .x [.u a, .b s], .x [.u b, .b t], .x [.u e', .b r], .x [.u a', .b s], .x [.u b', .b t]]
def envM : T SV := (((((T.nil.set 6 (SV.o 0 0)).set 7 (.o 1 0)).set 8 (.o 2 0)).set 9 (.o 3 0)).set 10 (.o 4 0)).set 11 (.o 5 0)
def stM (e a b e' a' b' : List Int) (r s t : Bool) : SX.St := ⟨envM, objM e a b e' a' b' r s t⟩
def stM1 (e a b e' a' b' : List Int) (r s t : Bool) (j : Nat) : SX.St := ⟨((envM.set 46 (.os 6 0 9 2)).set 47 (.n .i64 9)).set 48 (.n .i64 j), objM e a b e' a' b' r s t ++ [.x onesL]⟩
def stM2 (e a b e' a' b' : List Int) (r s t : Bool) (j : Nat) : SX.St := ⟨((envM.set 63 (.os 6 0 24 2)).set 64 (.n .i64 24)).set 65 (.n .i64 j), objM e a b e' a' b' r s t ++ [.x twosL]⟩
end Go.Proofs.YtdgbdkfoeaollaaGreatDoor.V
