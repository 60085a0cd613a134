-- Written by wip/xprint.py (the session's program over the kit's printer) for the claim of FnExactMeasOf; Lean checks it.
import Derived.Test.YthaficfkkpcfiaaDoorPFnExactMeasOfx0
import Derived.Test.YthaficfkkpcfiaaDoorPFnExactMeasOfx1
import Derived.Test.YthaficfkkpcfiaaDoorPFnExactMeasOfx2
import Derived.Test.YthaficfkkpcfiaaDoorPFnExactMeasOfx3
namespace Go.Proofs.YthaficfkkpcfiaaDoor.PFnExactMeasOf
open Go.RowKit Go.Proofs.YthaficfkkpcfiaaDoorW.PrintWords Go.Proofs.YthaficfkkpcfiaaDoorW.PrintLast Go.Proofs.YthaficfkkpcfiaaDoorW.PrintMore
attribute [local go_sem] max2_int min2_int max_two min_two max_three min_three max_four min_four   -- for this text's walks alone
set_option linter.unusedVariables false
set_option linter.unusedSimpArgs false

end Go.Proofs.YthaficfkkpcfiaaDoor.PFnExactMeasOf
