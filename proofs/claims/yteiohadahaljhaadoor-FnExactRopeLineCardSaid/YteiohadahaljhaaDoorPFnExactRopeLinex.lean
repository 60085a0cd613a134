-- Written by wip/xprint.py (the session's program over the kit's printer) for the claim of FnExactRopeLine; Lean checks it.
import Derived.Test.YteiohadahaljhaaDoorPFnExactRopeLinex0
import Derived.Test.YteiohadahaljhaaDoorPFnExactRopeLinex1
import Derived.Test.YteiohadahaljhaaDoorPFnExactRopeLinex2
import Derived.Test.YteiohadahaljhaaDoorPFnExactRopeLinex3
import Derived.Test.YteiohadahaljhaaDoorPFnExactRopeLinex4
import Derived.Test.YteiohadahaljhaaDoorPFnExactRopeLinex5
import Derived.Test.YteiohadahaljhaaDoorPFnExactRopeLinex6
namespace Go.Proofs.YteiohadahaljhaaDoor.PFnExactRopeLine
open Go.RowKit Go.Proofs.YteiohadahaljhaaDoorW.PrintWords Go.Proofs.YteiohadahaljhaaDoorW.PrintLast Go.Proofs.YteiohadahaljhaaDoorW.PrintMore
attribute [local go_sem] max2_int min2_int max_two min_two max_three min_three max_four min_four   -- for this text's walks alone
set_option linter.unusedVariables false
set_option linter.unusedSimpArgs false

end Go.Proofs.YteiohadahaljhaaDoor.PFnExactRopeLine
