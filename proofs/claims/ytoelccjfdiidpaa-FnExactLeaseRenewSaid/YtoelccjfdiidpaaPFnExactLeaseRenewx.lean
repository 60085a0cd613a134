-- Written by wip/xprint.py (the session's program over the kit's printer) for the claim of FnExactLeaseRenew; Lean checks it.
import Derived.Test.YtoelccjfdiidpaaPFnExactLeaseRenewx0
import Derived.Test.YtoelccjfdiidpaaPFnExactLeaseRenewx1
import Derived.Test.YtoelccjfdiidpaaPFnExactLeaseRenewx2
import Derived.Test.YtoelccjfdiidpaaPFnExactLeaseRenewx3
import Derived.Test.YtoelccjfdiidpaaPFnExactLeaseRenewx4
import Derived.Test.YtoelccjfdiidpaaPFnExactLeaseRenewx5
import Derived.Test.YtoelccjfdiidpaaPFnExactLeaseRenewx6
import Derived.Test.YtoelccjfdiidpaaPFnExactLeaseRenewx7
import Derived.Test.YtoelccjfdiidpaaPFnExactLeaseRenewx8
namespace Go.Proofs.Ytoelccjfdiidpaa.PFnExactLeaseRenew
open Go.RowKit Go.Proofs.YtoelccjfdiidpaaW.PrintWords Go.Proofs.YtoelccjfdiidpaaW.PrintLast Go.Proofs.YtoelccjfdiidpaaW.PrintMore
attribute [local go_sem] max2_int min2_int max_two min_two max_three min_three max_four min_four   -- for this text's walks alone
set_option linter.unusedVariables false
set_option linter.unusedSimpArgs false

end Go.Proofs.Ytoelccjfdiidpaa.PFnExactLeaseRenew
