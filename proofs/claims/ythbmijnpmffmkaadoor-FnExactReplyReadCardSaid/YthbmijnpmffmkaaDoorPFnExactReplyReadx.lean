-- Written by wip/xprint.py (the session's program over the kit's printer) for the claim of FnExactReplyRead; Lean checks it.
import Derived.Test.YthbmijnpmffmkaaDoorPFnExactReplyReadx0
import Derived.Test.YthbmijnpmffmkaaDoorPFnExactReplyReadx1
import Derived.Test.YthbmijnpmffmkaaDoorPFnExactReplyReadx2
import Derived.Test.YthbmijnpmffmkaaDoorPFnExactReplyReadx3
import Derived.Test.YthbmijnpmffmkaaDoorPFnExactReplyReadx4
import Derived.Test.YthbmijnpmffmkaaDoorPFnExactReplyReadx5
import Derived.Test.YthbmijnpmffmkaaDoorPFnExactReplyReadx6
import Derived.Test.YthbmijnpmffmkaaDoorPFnExactReplyReadx7
import Derived.Test.YthbmijnpmffmkaaDoorPFnExactReplyReadx8
namespace Go.Proofs.YthbmijnpmffmkaaDoor.PFnExactReplyRead
open Go.RowKit Go.Proofs.YthbmijnpmffmkaaDoorW.PrintWords Go.Proofs.YthbmijnpmffmkaaDoorW.PrintLast Go.Proofs.YthbmijnpmffmkaaDoorW.PrintMore
attribute [local go_sem] max2_int min2_int max_two min_two max_three min_three max_four min_four   -- for this text's walks alone
set_option linter.unusedVariables false
set_option linter.unusedSimpArgs false

end Go.Proofs.YthbmijnpmffmkaaDoor.PFnExactReplyRead
