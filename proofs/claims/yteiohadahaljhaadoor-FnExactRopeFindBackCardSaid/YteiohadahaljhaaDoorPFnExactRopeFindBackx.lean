-- Written by wip/xprint.py (the session's program over the kit's printer) for the claim of FnExactRopeFindBack; Lean checks it.
import Derived.Test.YteiohadahaljhaaDoorPFnExactRopeFindBackx0
import Derived.Test.YteiohadahaljhaaDoorPFnExactRopeFindBackx1
import Derived.Test.YteiohadahaljhaaDoorPFnExactRopeFindBackx2
import Derived.Test.YteiohadahaljhaaDoorPFnExactRopeFindBackx3
import Derived.Test.YteiohadahaljhaaDoorPFnExactRopeFindBackx4
import Derived.Test.YteiohadahaljhaaDoorPFnExactRopeFindBackx5
import Derived.Test.YteiohadahaljhaaDoorPFnExactRopeFindBackx6
import Derived.Test.YteiohadahaljhaaDoorPFnExactRopeFindBackx7
namespace Go.Proofs.YteiohadahaljhaaDoor.PFnExactRopeFindBack
open Go.RowKit Go.Proofs.YteiohadahaljhaaDoorW.PrintWords Go.Proofs.YteiohadahaljhaaDoorW.PrintLast Go.Proofs.YteiohadahaljhaaDoorW.PrintMore
attribute [local go_sem] max2_int min2_int max_two min_two max_three min_three max_four min_four   -- for this text's walks alone
set_option linter.unusedVariables false
set_option linter.unusedSimpArgs false

end Go.Proofs.YteiohadahaljhaaDoor.PFnExactRopeFindBack
