-- Written by wip/xprint.py (the session's program over the kit's printer) for the claim of FnExactEditOf; Lean checks it.
import Derived.Test.YteiohadahaljhaaDoorPFnExactEditOfx0
import Derived.Test.YteiohadahaljhaaDoorPFnExactEditOfx1
import Derived.Test.YteiohadahaljhaaDoorPFnExactEditOfx2
import Derived.Test.YteiohadahaljhaaDoorPFnExactEditOfx3
import Derived.Test.YteiohadahaljhaaDoorPFnExactEditOfx4
import Derived.Test.YteiohadahaljhaaDoorPFnExactEditOfx5
import Derived.Test.YteiohadahaljhaaDoorPFnExactEditOfx6
namespace Go.Proofs.YteiohadahaljhaaDoor.PFnExactEditOf
open Go.RowKit Go.Proofs.YteiohadahaljhaaDoorW.PrintWords Go.Proofs.YteiohadahaljhaaDoorW.PrintLast Go.Proofs.YteiohadahaljhaaDoorW.PrintMore
attribute [local go_sem] max2_int min2_int max_two min_two max_three min_three max_four min_four   -- for this text's walks alone
set_option linter.unusedVariables false
set_option linter.unusedSimpArgs false

end Go.Proofs.YteiohadahaljhaaDoor.PFnExactEditOf
