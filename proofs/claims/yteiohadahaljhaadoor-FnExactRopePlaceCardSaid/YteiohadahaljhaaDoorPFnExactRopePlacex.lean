-- Written by wip/xprint.py (the session's program over the kit's printer) for the claim of FnExactRopePlace; Lean checks it.
import Derived.Test.YteiohadahaljhaaDoorPFnExactRopePlacex0
import Derived.Test.YteiohadahaljhaaDoorPFnExactRopePlacex1
import Derived.Test.YteiohadahaljhaaDoorPFnExactRopePlacex2
import Derived.Test.YteiohadahaljhaaDoorPFnExactRopePlacex3
import Derived.Test.YteiohadahaljhaaDoorPFnExactRopePlacex4
import Derived.Test.YteiohadahaljhaaDoorPFnExactRopePlacex5
import Derived.Test.YteiohadahaljhaaDoorPFnExactRopePlacex6
import Derived.Test.YteiohadahaljhaaDoorPFnExactRopePlacex7
namespace Go.Proofs.YteiohadahaljhaaDoor.PFnExactRopePlace
open Go.RowKit Go.Proofs.YteiohadahaljhaaDoorW.PrintWords Go.Proofs.YteiohadahaljhaaDoorW.PrintLast Go.Proofs.YteiohadahaljhaaDoorW.PrintMore
attribute [local go_sem] max2_int min2_int max_two min_two max_three min_three max_four min_four   -- for this text's walks alone
set_option linter.unusedVariables false
set_option linter.unusedSimpArgs false

end Go.Proofs.YteiohadahaljhaaDoor.PFnExactRopePlace
