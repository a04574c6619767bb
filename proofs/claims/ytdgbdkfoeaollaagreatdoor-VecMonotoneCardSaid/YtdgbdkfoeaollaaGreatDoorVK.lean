/- The reference's fit, Balance and Cond; Long of three vectors; Spoil. -/
import Derived.Test.YtdgbdkfoeaollaaGreatDoorVJ
import Derived.Test.YtdgbdkfoeaollaaGreatDoorALe
set_option linter.unusedSimpArgs false
set_option linter.unusedVariables false
namespace Go.Proofs.YtdgbdkfoeaollaaGreatDoor.V
open Go Go.AL Go.SX
end Go.Proofs.YtdgbdkfoeaollaaGreatDoor.V
