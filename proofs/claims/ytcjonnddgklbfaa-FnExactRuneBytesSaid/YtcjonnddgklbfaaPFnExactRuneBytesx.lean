-- Written by wip/xprint.py (the session's program over the kit's printer) for the claim of FnExactRuneBytes; Lean checks it.
import Derived.Test.YtcjonnddgklbfaaPFnExactRuneBytesx0
import Derived.Test.YtcjonnddgklbfaaPFnExactRuneBytesx1
import Derived.Test.YtcjonnddgklbfaaPFnExactRuneBytesx2
namespace Go.Proofs.Ytcjonnddgklbfaa.PFnExactRuneBytes
open Go.RowKit Go.Proofs.YtcjonnddgklbfaaW.PrintWords Go.Proofs.YtcjonnddgklbfaaW.PrintLast Go.Proofs.YtcjonnddgklbfaaW.PrintMore
attribute [local go_sem] max2_int min2_int max_two min_two max_three min_three max_four min_four   -- for this text's walks alone
set_option linter.unusedVariables false
set_option linter.unusedSimpArgs false

end Go.Proofs.Ytcjonnddgklbfaa.PFnExactRuneBytes
