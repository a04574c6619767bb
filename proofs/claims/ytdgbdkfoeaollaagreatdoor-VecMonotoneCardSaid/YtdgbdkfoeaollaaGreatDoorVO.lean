/- window, Resize, Slice and Put. -/
import Derived.Test.YtdgbdkfoeaollaaGreatDoorVN
import Derived.Test.YtdgbdkfoeaollaaGreatDoorALe
set_option linter.unusedSimpArgs false
set_option linter.unusedVariables false
namespace Go.Proofs.YtdgbdkfoeaollaaGreatDoor.V
open Go Go.AL Go.SX
end Go.Proofs.YtdgbdkfoeaollaaGreatDoor.V
