-- Written by wip/xprint.py (the session's program over the kit's printer) for the claim of FnExactEditBack; Lean checks it.
import Derived.Test.YthbmijnpmffmkaaDoorPFnExactEditBackx0
import Derived.Test.YthbmijnpmffmkaaDoorPFnExactEditBackx1
import Derived.Test.YthbmijnpmffmkaaDoorPFnExactEditBackx2
import Derived.Test.YthbmijnpmffmkaaDoorPFnExactEditBackx3
import Derived.Test.YthbmijnpmffmkaaDoorPFnExactEditBackx4
import Derived.Test.YthbmijnpmffmkaaDoorPFnExactEditBackx5
namespace Go.Proofs.YthbmijnpmffmkaaDoor.PFnExactEditBack
open Go.RowKit Go.Proofs.YthbmijnpmffmkaaDoorW.PrintWords Go.Proofs.YthbmijnpmffmkaaDoorW.PrintLast Go.Proofs.YthbmijnpmffmkaaDoorW.PrintMore
attribute [local go_sem] max2_int min2_int max_two min_two max_three min_three max_four min_four   -- for this text's walks alone
set_option linter.unusedVariables false
set_option linter.unusedSimpArgs false

end Go.Proofs.YthbmijnpmffmkaaDoor.PFnExactEditBack
