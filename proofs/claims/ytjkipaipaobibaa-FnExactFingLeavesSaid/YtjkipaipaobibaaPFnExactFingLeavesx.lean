-- Written by wip/xprint.py (the session's program over the kit's printer) for the claim of FnExactFingLeaves; Lean checks it.
import Derived.Test.YtjkipaipaobibaaPFnExactFingLeavesx0
import Derived.Test.YtjkipaipaobibaaPFnExactFingLeavesx1
import Derived.Test.YtjkipaipaobibaaPFnExactFingLeavesx2
import Derived.Test.YtjkipaipaobibaaPFnExactFingLeavesx3
import Derived.Test.YtjkipaipaobibaaPFnExactFingLeavesx4
import Derived.Test.YtjkipaipaobibaaPFnExactFingLeavesx5
import Derived.Test.YtjkipaipaobibaaPFnExactFingLeavesx6
import Derived.Test.YtjkipaipaobibaaPFnExactFingLeavesx7
import Derived.Test.YtjkipaipaobibaaPFnExactFingLeavesx8
namespace Go.Proofs.Ytjkipaipaobibaa.PFnExactFingLeaves
open Go.RowKit Go.Proofs.YtjkipaipaobibaaW.PrintWords Go.Proofs.YtjkipaipaobibaaW.PrintLast Go.Proofs.YtjkipaipaobibaaW.PrintMore
attribute [local go_sem] max2_int min2_int max_two min_two max_three min_three max_four min_four   -- for this text's walks alone
set_option linter.unusedVariables false
set_option linter.unusedSimpArgs false

end Go.Proofs.Ytjkipaipaobibaa.PFnExactFingLeaves
