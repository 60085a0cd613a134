-- Written by wip/xprint.py (the session's program over the kit's printer) for the claim of FnExactLeaseMoved; Lean checks it.
import Derived.Test.YtoelccjfdiidpaaPFnExactLeaseMovedx0
import Derived.Test.YtoelccjfdiidpaaPFnExactLeaseMovedx1
import Derived.Test.YtoelccjfdiidpaaPFnExactLeaseMovedx2
import Derived.Test.YtoelccjfdiidpaaPFnExactLeaseMovedx3
import Derived.Test.YtoelccjfdiidpaaPFnExactLeaseMovedx4
import Derived.Test.YtoelccjfdiidpaaPFnExactLeaseMovedx5
import Derived.Test.YtoelccjfdiidpaaPFnExactLeaseMovedx6
import Derived.Test.YtoelccjfdiidpaaPFnExactLeaseMovedx7
import Derived.Test.YtoelccjfdiidpaaPFnExactLeaseMovedx8
import Derived.Test.YtoelccjfdiidpaaPFnExactLeaseMovedx9
import Derived.Test.YtoelccjfdiidpaaPFnExactLeaseMovedx10
import Derived.Test.YtoelccjfdiidpaaPFnExactLeaseMovedx11
import Derived.Test.YtoelccjfdiidpaaPFnExactLeaseMovedx12
namespace Go.Proofs.Ytoelccjfdiidpaa.PFnExactLeaseMoved
open Go.RowKit Go.Proofs.YtoelccjfdiidpaaW.PrintWords Go.Proofs.YtoelccjfdiidpaaW.PrintLast Go.Proofs.YtoelccjfdiidpaaW.PrintMore
attribute [local go_sem] max2_int min2_int max_two min_two max_three min_three max_four min_four   -- for this text's walks alone
set_option linter.unusedVariables false
set_option linter.unusedSimpArgs false

end Go.Proofs.Ytoelccjfdiidpaa.PFnExactLeaseMoved
