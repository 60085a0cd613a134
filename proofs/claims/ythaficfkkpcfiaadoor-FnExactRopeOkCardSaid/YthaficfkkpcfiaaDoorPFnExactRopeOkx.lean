-- Written by wip/xprint.py (the session's program over the kit's printer) for the claim of FnExactRopeOk; Lean checks it.
import Derived.Test.YthaficfkkpcfiaaDoorPFnExactRopeOkx0
import Derived.Test.YthaficfkkpcfiaaDoorPFnExactRopeOkx1
import Derived.Test.YthaficfkkpcfiaaDoorPFnExactRopeOkx2
import Derived.Test.YthaficfkkpcfiaaDoorPFnExactRopeOkx3
import Derived.Test.YthaficfkkpcfiaaDoorPFnExactRopeOkx4
import Derived.Test.YthaficfkkpcfiaaDoorPFnExactRopeOkx5
namespace Go.Proofs.YthaficfkkpcfiaaDoor.PFnExactRopeOk
open Go.RowKit Go.Proofs.YthaficfkkpcfiaaDoorW.PrintWords Go.Proofs.YthaficfkkpcfiaaDoorW.PrintLast Go.Proofs.YthaficfkkpcfiaaDoorW.PrintMore
attribute [local go_sem] max2_int min2_int max_two min_two max_three min_three max_four min_four   -- for this text's walks alone
set_option linter.unusedVariables false
set_option linter.unusedSimpArgs false

end Go.Proofs.YthaficfkkpcfiaaDoor.PFnExactRopeOk
