-- Written by wip/xprint.py (the session's program over the kit's printer) for the claim of FnExactReplyOk; Lean checks it.
import Derived.Test.YtiidnjbojekngaaDoorPFnExactReplyOkx0
import Derived.Test.YtiidnjbojekngaaDoorPFnExactReplyOkx1
import Derived.Test.YtiidnjbojekngaaDoorPFnExactReplyOkx2
import Derived.Test.YtiidnjbojekngaaDoorPFnExactReplyOkx3
namespace Go.Proofs.YtiidnjbojekngaaDoor.PFnExactReplyOk
open Go.RowKit Go.Proofs.YtiidnjbojekngaaDoorW.PrintWords Go.Proofs.YtiidnjbojekngaaDoorW.PrintLast Go.Proofs.YtiidnjbojekngaaDoorW.PrintMore
attribute [local go_sem] max2_int min2_int max_two min_two max_three min_three max_four min_four   -- for this text's walks alone
set_option linter.unusedVariables false
set_option linter.unusedSimpArgs false

end Go.Proofs.YtiidnjbojekngaaDoor.PFnExactReplyOk
