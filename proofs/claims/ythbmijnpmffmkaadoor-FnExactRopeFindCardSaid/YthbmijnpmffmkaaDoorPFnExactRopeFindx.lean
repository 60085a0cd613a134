-- Written by wip/xprint.py (the session's program over the kit's printer) for the claim of FnExactRopeFind; Lean checks it.
import Derived.Test.YthbmijnpmffmkaaDoorPFnExactRopeFindx0
import Derived.Test.YthbmijnpmffmkaaDoorPFnExactRopeFindx1
import Derived.Test.YthbmijnpmffmkaaDoorPFnExactRopeFindx2
import Derived.Test.YthbmijnpmffmkaaDoorPFnExactRopeFindx3
import Derived.Test.YthbmijnpmffmkaaDoorPFnExactRopeFindx4
import Derived.Test.YthbmijnpmffmkaaDoorPFnExactRopeFindx5
import Derived.Test.YthbmijnpmffmkaaDoorPFnExactRopeFindx6
namespace Go.Proofs.YthbmijnpmffmkaaDoor.PFnExactRopeFind
open Go.RowKit Go.Proofs.YthbmijnpmffmkaaDoorW.PrintWords Go.Proofs.YthbmijnpmffmkaaDoorW.PrintLast Go.Proofs.YthbmijnpmffmkaaDoorW.PrintMore
attribute [local go_sem] max2_int min2_int max_two min_two max_three min_three max_four min_four   -- for this text's walks alone
set_option linter.unusedVariables false
set_option linter.unusedSimpArgs false

end Go.Proofs.YthbmijnpmffmkaaDoor.PFnExactRopeFind
