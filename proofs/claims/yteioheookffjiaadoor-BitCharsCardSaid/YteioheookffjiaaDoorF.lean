-- Written by a program of this session (wip/tools/drive.py) over the kit's print.py.
import Derived.Test.YteioheookffjiaaDoorF0
import Derived.Test.YteioheookffjiaaDoorF1
import Derived.Test.YteioheookffjiaaDoorF2
import Derived.Test.YteioheookffjiaaDoorF3
import Derived.Test.YteioheookffjiaaDoorF4
import Derived.Test.YteioheookffjiaaDoorF5
import Derived.Test.YteioheookffjiaaDoorF6
import Derived.Test.YteioheookffjiaaDoorF7
import Derived.Test.YteioheookffjiaaDoorF8
import Derived.Test.YteioheookffjiaaDoorF9
import Derived.Test.YteioheookffjiaaDoorF10
namespace Go.Proofs.YteioheookffjiaaDoor.F
open Go.RowKit Go.Proofs.YteioheookffjiaaDoorW.PrintWords Go.Proofs.YteioheookffjiaaDoorW.PrintLast Go.Proofs.YteioheookffjiaaDoorW.PrintMore
attribute [local go_sem] max2_int min2_int max_two min_two max_three min_three max_four min_four   -- for this text's walks alone
set_option linter.unusedVariables false
set_option linter.unusedSimpArgs false

end Go.Proofs.YteioheookffjiaaDoor.F
