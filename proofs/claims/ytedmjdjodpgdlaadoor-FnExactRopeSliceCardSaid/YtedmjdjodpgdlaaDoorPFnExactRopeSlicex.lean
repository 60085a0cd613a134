-- Written by wip/xprint.py (the session's program over the kit's printer) for the claim of FnExactRopeSlice; Lean checks it.
import Derived.Test.YtedmjdjodpgdlaaDoorPFnExactRopeSlicex0
import Derived.Test.YtedmjdjodpgdlaaDoorPFnExactRopeSlicex1
import Derived.Test.YtedmjdjodpgdlaaDoorPFnExactRopeSlicex2
import Derived.Test.YtedmjdjodpgdlaaDoorPFnExactRopeSlicex3
import Derived.Test.YtedmjdjodpgdlaaDoorPFnExactRopeSlicex4
import Derived.Test.YtedmjdjodpgdlaaDoorPFnExactRopeSlicex5
import Derived.Test.YtedmjdjodpgdlaaDoorPFnExactRopeSlicex6
namespace Go.Proofs.YtedmjdjodpgdlaaDoor.PFnExactRopeSlice
open Go.RowKit Go.Proofs.YtedmjdjodpgdlaaDoorW.PrintWords Go.Proofs.YtedmjdjodpgdlaaDoorW.PrintLast Go.Proofs.YtedmjdjodpgdlaaDoorW.PrintMore
attribute [local go_sem] max2_int min2_int max_two min_two max_three min_three max_four min_four   -- for this text's walks alone
set_option linter.unusedVariables false
set_option linter.unusedSimpArgs false

end Go.Proofs.YtedmjdjodpgdlaaDoor.PFnExactRopeSlice
