-- Written by wip/xprint.py (the session's program over the kit's printer) for the claim of FnExactLeaseTake; Lean checks it.
import Derived.Test.YtoelccjfdiidpaaPFnExactLeaseTakex0
import Derived.Test.YtoelccjfdiidpaaPFnExactLeaseTakex1
import Derived.Test.YtoelccjfdiidpaaPFnExactLeaseTakex2
import Derived.Test.YtoelccjfdiidpaaPFnExactLeaseTakex3
import Derived.Test.YtoelccjfdiidpaaPFnExactLeaseTakex4
import Derived.Test.YtoelccjfdiidpaaPFnExactLeaseTakex5
import Derived.Test.YtoelccjfdiidpaaPFnExactLeaseTakex6
import Derived.Test.YtoelccjfdiidpaaPFnExactLeaseTakex7
import Derived.Test.YtoelccjfdiidpaaPFnExactLeaseTakex8
import Derived.Test.YtoelccjfdiidpaaPFnExactLeaseTakex9
import Derived.Test.YtoelccjfdiidpaaPFnExactLeaseTakex10
namespace Go.Proofs.Ytoelccjfdiidpaa.PFnExactLeaseTake
open Go.RowKit Go.Proofs.YtoelccjfdiidpaaW.PrintWords Go.Proofs.YtoelccjfdiidpaaW.PrintLast Go.Proofs.YtoelccjfdiidpaaW.PrintMore
attribute [local go_sem] max2_int min2_int max_two min_two max_three min_three max_four min_four   -- for this text's walks alone
set_option linter.unusedVariables false
set_option linter.unusedSimpArgs false

end Go.Proofs.Ytoelccjfdiidpaa.PFnExactLeaseTake
