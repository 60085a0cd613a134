-- Written by wip/xprint.py (the session's program over the kit's printer) for the claim of FnExactLeaseBars; Lean checks it.
import Derived.Test.YtoelccjfdiidpaaPFnExactLeaseBarsx0
import Derived.Test.YtoelccjfdiidpaaPFnExactLeaseBarsx1
import Derived.Test.YtoelccjfdiidpaaPFnExactLeaseBarsx2
import Derived.Test.YtoelccjfdiidpaaPFnExactLeaseBarsx3
import Derived.Test.YtoelccjfdiidpaaPFnExactLeaseBarsx4
import Derived.Test.YtoelccjfdiidpaaPFnExactLeaseBarsx5
import Derived.Test.YtoelccjfdiidpaaPFnExactLeaseBarsx6
import Derived.Test.YtoelccjfdiidpaaPFnExactLeaseBarsx7
import Derived.Test.YtoelccjfdiidpaaPFnExactLeaseBarsx8
namespace Go.Proofs.Ytoelccjfdiidpaa.PFnExactLeaseBars
open Go.RowKit Go.Proofs.YtoelccjfdiidpaaW.PrintWords Go.Proofs.YtoelccjfdiidpaaW.PrintLast Go.Proofs.YtoelccjfdiidpaaW.PrintMore
attribute [local go_sem] max2_int min2_int max_two min_two max_three min_three max_four min_four   -- for this text's walks alone
set_option linter.unusedVariables false
set_option linter.unusedSimpArgs false

end Go.Proofs.Ytoelccjfdiidpaa.PFnExactLeaseBars
