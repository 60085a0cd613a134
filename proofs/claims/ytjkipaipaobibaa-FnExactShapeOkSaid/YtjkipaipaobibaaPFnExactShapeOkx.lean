-- Written by wip/xprint.py (the session's program over the kit's printer) for the claim of FnExactShapeOk; Lean checks it.
import Derived.Test.YtjkipaipaobibaaPFnExactShapeOkx0
import Derived.Test.YtjkipaipaobibaaPFnExactShapeOkx1
import Derived.Test.YtjkipaipaobibaaPFnExactShapeOkx2
import Derived.Test.YtjkipaipaobibaaPFnExactShapeOkx3
namespace Go.Proofs.Ytjkipaipaobibaa.PFnExactShapeOk
open Go.RowKit Go.Proofs.YtjkipaipaobibaaW.PrintWords Go.Proofs.YtjkipaipaobibaaW.PrintLast Go.Proofs.YtjkipaipaobibaaW.PrintMore
attribute [local go_sem] max2_int min2_int max_two min_two max_three min_three max_four min_four   -- for this text's walks alone
set_option linter.unusedVariables false
set_option linter.unusedSimpArgs false

end Go.Proofs.Ytjkipaipaobibaa.PFnExactShapeOk
