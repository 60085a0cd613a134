-- Written by wip/xprint.py (the session's program over the kit's printer) for the claim of FnExactReqOk; Lean checks it.
import Derived.Test.YthbmijnpmffmkaaDoorPFnExactReqOkx0
import Derived.Test.YthbmijnpmffmkaaDoorPFnExactReqOkx1
import Derived.Test.YthbmijnpmffmkaaDoorPFnExactReqOkx2
import Derived.Test.YthbmijnpmffmkaaDoorPFnExactReqOkx3
import Derived.Test.YthbmijnpmffmkaaDoorPFnExactReqOkx4
import Derived.Test.YthbmijnpmffmkaaDoorPFnExactReqOkx5
import Derived.Test.YthbmijnpmffmkaaDoorPFnExactReqOkx6
namespace Go.Proofs.YthbmijnpmffmkaaDoor.PFnExactReqOk
open Go.RowKit Go.Proofs.YthbmijnpmffmkaaDoorW.PrintWords Go.Proofs.YthbmijnpmffmkaaDoorW.PrintLast Go.Proofs.YthbmijnpmffmkaaDoorW.PrintMore
attribute [local go_sem] max2_int min2_int max_two min_two max_three min_three max_four min_four   -- for this text's walks alone
set_option linter.unusedVariables false
set_option linter.unusedSimpArgs false

end Go.Proofs.YthbmijnpmffmkaaDoor.PFnExactReqOk
