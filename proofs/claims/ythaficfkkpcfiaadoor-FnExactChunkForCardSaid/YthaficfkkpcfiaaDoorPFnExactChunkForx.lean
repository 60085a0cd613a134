-- Written by wip/xprint.py (the session's program over the kit's printer) for the claim of FnExactChunkFor; Lean checks it.
import Derived.Test.YthaficfkkpcfiaaDoorPFnExactChunkForx0
import Derived.Test.YthaficfkkpcfiaaDoorPFnExactChunkForx1
import Derived.Test.YthaficfkkpcfiaaDoorPFnExactChunkForx2
import Derived.Test.YthaficfkkpcfiaaDoorPFnExactChunkForx3
import Derived.Test.YthaficfkkpcfiaaDoorPFnExactChunkForx4
import Derived.Test.YthaficfkkpcfiaaDoorPFnExactChunkForx5
namespace Go.Proofs.YthaficfkkpcfiaaDoor.PFnExactChunkFor
open Go.RowKit Go.Proofs.YthaficfkkpcfiaaDoorW.PrintWords Go.Proofs.YthaficfkkpcfiaaDoorW.PrintLast Go.Proofs.YthaficfkkpcfiaaDoorW.PrintMore
attribute [local go_sem] max2_int min2_int max_two min_two max_three min_three max_four min_four   -- for this text's walks alone
set_option linter.unusedVariables false
set_option linter.unusedSimpArgs false

end Go.Proofs.YthaficfkkpcfiaaDoor.PFnExactChunkFor
