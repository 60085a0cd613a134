-- Written by wip/xprint.py (the session's program over the kit's printer) for the claim of FnExactStackOk; Lean checks it.
import Derived.Test.YtjgbfhdhffhimaaPFnExactStackOkx0
import Derived.Test.YtjgbfhdhffhimaaPFnExactStackOkx1
import Derived.Test.YtjgbfhdhffhimaaPFnExactStackOkx2
import Derived.Test.YtjgbfhdhffhimaaPFnExactStackOkx3
namespace Go.Proofs.Ytjgbfhdhffhimaa.PFnExactStackOk
open Go.RowKit Go.Proofs.YtjgbfhdhffhimaaW.PrintWords Go.Proofs.YtjgbfhdhffhimaaW.PrintLast Go.Proofs.YtjgbfhdhffhimaaW.PrintMore
attribute [local go_sem] max2_int min2_int max_two min_two max_three min_three max_four min_four   -- for this text's walks alone
set_option linter.unusedVariables false
set_option linter.unusedSimpArgs false

end Go.Proofs.Ytjgbfhdhffhimaa.PFnExactStackOk
