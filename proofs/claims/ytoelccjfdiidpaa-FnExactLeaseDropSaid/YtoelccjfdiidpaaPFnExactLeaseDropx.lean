-- Written by wip/xprint.py (the session's program over the kit's printer) for the claim of FnExactLeaseDrop; Lean checks it.
import Derived.Test.YtoelccjfdiidpaaPFnExactLeaseDropx0
import Derived.Test.YtoelccjfdiidpaaPFnExactLeaseDropx1
import Derived.Test.YtoelccjfdiidpaaPFnExactLeaseDropx2
import Derived.Test.YtoelccjfdiidpaaPFnExactLeaseDropx3
import Derived.Test.YtoelccjfdiidpaaPFnExactLeaseDropx4
import Derived.Test.YtoelccjfdiidpaaPFnExactLeaseDropx5
import Derived.Test.YtoelccjfdiidpaaPFnExactLeaseDropx6
import Derived.Test.YtoelccjfdiidpaaPFnExactLeaseDropx7
import Derived.Test.YtoelccjfdiidpaaPFnExactLeaseDropx8
namespace Go.Proofs.Ytoelccjfdiidpaa.PFnExactLeaseDrop
open Go.RowKit Go.Proofs.YtoelccjfdiidpaaW.PrintWords Go.Proofs.YtoelccjfdiidpaaW.PrintLast Go.Proofs.YtoelccjfdiidpaaW.PrintMore
attribute [local go_sem] max2_int min2_int max_two min_two max_three min_three max_four min_four   -- for this text's walks alone
set_option linter.unusedVariables false
set_option linter.unusedSimpArgs false

end Go.Proofs.Ytoelccjfdiidpaa.PFnExactLeaseDrop
