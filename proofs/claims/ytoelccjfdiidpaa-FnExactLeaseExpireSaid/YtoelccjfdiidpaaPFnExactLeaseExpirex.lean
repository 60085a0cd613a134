-- Written by wip/xprint.py (the session's program over the kit's printer) for the claim of FnExactLeaseExpire; Lean checks it.
import Derived.Test.YtoelccjfdiidpaaPFnExactLeaseExpirex0
import Derived.Test.YtoelccjfdiidpaaPFnExactLeaseExpirex1
import Derived.Test.YtoelccjfdiidpaaPFnExactLeaseExpirex2
import Derived.Test.YtoelccjfdiidpaaPFnExactLeaseExpirex3
import Derived.Test.YtoelccjfdiidpaaPFnExactLeaseExpirex4
import Derived.Test.YtoelccjfdiidpaaPFnExactLeaseExpirex5
import Derived.Test.YtoelccjfdiidpaaPFnExactLeaseExpirex6
namespace Go.Proofs.Ytoelccjfdiidpaa.PFnExactLeaseExpire
open Go.RowKit Go.Proofs.YtoelccjfdiidpaaW.PrintWords Go.Proofs.YtoelccjfdiidpaaW.PrintLast Go.Proofs.YtoelccjfdiidpaaW.PrintMore
attribute [local go_sem] max2_int min2_int max_two min_two max_three min_three max_four min_four   -- for this text's walks alone
set_option linter.unusedVariables false
set_option linter.unusedSimpArgs false

end Go.Proofs.Ytoelccjfdiidpaa.PFnExactLeaseExpire
