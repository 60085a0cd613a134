-- Written by wip/xprint.py (the session's program over the kit's printer) for the claim of FnExactRopeText; Lean checks it.
import Derived.Test.YtedmjdjodpgdlaaDoorPFnExactRopeTextx0
import Derived.Test.YtedmjdjodpgdlaaDoorPFnExactRopeTextx1
import Derived.Test.YtedmjdjodpgdlaaDoorPFnExactRopeTextx2
import Derived.Test.YtedmjdjodpgdlaaDoorPFnExactRopeTextx3
import Derived.Test.YtedmjdjodpgdlaaDoorPFnExactRopeTextx4
import Derived.Test.YtedmjdjodpgdlaaDoorPFnExactRopeTextx5
import Derived.Test.YtedmjdjodpgdlaaDoorPFnExactRopeTextx6
namespace Go.Proofs.YtedmjdjodpgdlaaDoor.PFnExactRopeText
open Go.RowKit Go.Proofs.YtedmjdjodpgdlaaDoorW.PrintWords Go.Proofs.YtedmjdjodpgdlaaDoorW.PrintLast Go.Proofs.YtedmjdjodpgdlaaDoorW.PrintMore
attribute [local go_sem] max2_int min2_int max_two min_two max_three min_three max_four min_four   -- for this text's walks alone
set_option linter.unusedVariables false
set_option linter.unusedSimpArgs false

end Go.Proofs.YtedmjdjodpgdlaaDoor.PFnExactRopeText
