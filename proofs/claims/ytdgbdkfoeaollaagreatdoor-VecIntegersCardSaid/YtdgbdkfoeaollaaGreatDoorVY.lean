/- The reference's Known, Leq, WithSign, Bools and Int. -/
import Derived.Test.YtdgbdkfoeaollaaGreatDoorVG
import Derived.Test.YtdgbdkfoeaollaaGreatDoorALe
import Derived.Test.YtdgbdkfoeaollaaGreatDoorVZe
section
set_option linter.unusedSimpArgs false
set_option linter.unusedVariables false
namespace Go.Proofs.YtdgbdkfoeaollaaGreatDoor.V
open Go Go.AL Go.SX
end Go.Proofs.YtdgbdkfoeaollaaGreatDoor.V
end
section
set_option linter.unusedSimpArgs false
set_option linter.unusedVariables false
set_option maxRecDepth 100000
namespace Go.Proofs.YtdgbdkfoeaollaaGreatDoor.V
open Go Go.AL Go.SX
end Go.Proofs.YtdgbdkfoeaollaaGreatDoor.V
end
