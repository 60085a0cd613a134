-- Written by wip/xprint.py (the session's program over the kit's printer) for the claim of FnExactLeaseAll; Lean checks it.
import Derived.Test.YtoelccjfdiidpaaPFnExactLeaseAllx0
import Derived.Test.YtoelccjfdiidpaaPFnExactLeaseAllx1
import Derived.Test.YtoelccjfdiidpaaPFnExactLeaseAllx2
import Derived.Test.YtoelccjfdiidpaaPFnExactLeaseAllx3
import Derived.Test.YtoelccjfdiidpaaPFnExactLeaseAllx4
import Derived.Test.YtoelccjfdiidpaaPFnExactLeaseAllx5
import Derived.Test.YtoelccjfdiidpaaPFnExactLeaseAllx6
import Derived.Test.YtoelccjfdiidpaaPFnExactLeaseAllx7
namespace Go.Proofs.Ytoelccjfdiidpaa.PFnExactLeaseAll
open Go.RowKit Go.Proofs.YtoelccjfdiidpaaW.PrintWords Go.Proofs.YtoelccjfdiidpaaW.PrintLast Go.Proofs.YtoelccjfdiidpaaW.PrintMore
attribute [local go_sem] max2_int min2_int max_two min_two max_three min_three max_four min_four   -- for this text's walks alone
set_option linter.unusedVariables false
set_option linter.unusedSimpArgs false

end Go.Proofs.Ytoelccjfdiidpaa.PFnExactLeaseAll
