-- Written by wip/xprint.py (the session's program over the kit's printer) for the claim of FnExactMeasAdd; Lean checks it.
import Derived.Test.YtcjonnddgklbfaaPFnExactMeasAddx0
import Derived.Test.YtcjonnddgklbfaaPFnExactMeasAddx1
import Derived.Test.YtcjonnddgklbfaaPFnExactMeasAddx2
namespace Go.Proofs.Ytcjonnddgklbfaa.PFnExactMeasAdd
open Go.RowKit Go.Proofs.YtcjonnddgklbfaaW.PrintWords Go.Proofs.YtcjonnddgklbfaaW.PrintLast Go.Proofs.YtcjonnddgklbfaaW.PrintMore
attribute [local go_sem] max2_int min2_int max_two min_two max_three min_three max_four min_four   -- for this text's walks alone
set_option linter.unusedVariables false
set_option linter.unusedSimpArgs false

end Go.Proofs.Ytcjonnddgklbfaa.PFnExactMeasAdd
