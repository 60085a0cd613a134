-- Written by wip/xprint.py (the session's program over the kit's printer) for the claim of FnExactEditOk; Lean checks it.
import Derived.Test.YtiidnjbojekngaaDoorPFnExactEditOkx0
import Derived.Test.YtiidnjbojekngaaDoorPFnExactEditOkx1
import Derived.Test.YtiidnjbojekngaaDoorPFnExactEditOkx2
import Derived.Test.YtiidnjbojekngaaDoorPFnExactEditOkx3
import Derived.Test.YtiidnjbojekngaaDoorPFnExactEditOkx4
namespace Go.Proofs.YtiidnjbojekngaaDoor.PFnExactEditOk
open Go.RowKit Go.Proofs.YtiidnjbojekngaaDoorW.PrintWords Go.Proofs.YtiidnjbojekngaaDoorW.PrintLast Go.Proofs.YtiidnjbojekngaaDoorW.PrintMore
attribute [local go_sem] max2_int min2_int max_two min_two max_three min_three max_four min_four   -- for this text's walks alone
set_option linter.unusedVariables false
set_option linter.unusedSimpArgs false

end Go.Proofs.YtiidnjbojekngaaDoor.PFnExactEditOk
