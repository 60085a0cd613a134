-- Written by wip/xprint.py (the session's program over the kit's printer) for the claim of FnExactFingOk; Lean checks it.
import Derived.Test.YtjkipaipaobibaaPFnExactFingOkx0
import Derived.Test.YtjkipaipaobibaaPFnExactFingOkx1
import Derived.Test.YtjkipaipaobibaaPFnExactFingOkx2
import Derived.Test.YtjkipaipaobibaaPFnExactFingOkx3
import Derived.Test.YtjkipaipaobibaaPFnExactFingOkx4
import Derived.Test.YtjkipaipaobibaaPFnExactFingOkx5
import Derived.Test.YtjkipaipaobibaaPFnExactFingOkx6
import Derived.Test.YtjkipaipaobibaaPFnExactFingOkx7
namespace Go.Proofs.Ytjkipaipaobibaa.PFnExactFingOk
open Go.RowKit Go.Proofs.YtjkipaipaobibaaW.PrintWords Go.Proofs.YtjkipaipaobibaaW.PrintLast Go.Proofs.YtjkipaipaobibaaW.PrintMore
attribute [local go_sem] max2_int min2_int max_two min_two max_three min_three max_four min_four   -- for this text's walks alone
set_option linter.unusedVariables false
set_option linter.unusedSimpArgs false

end Go.Proofs.Ytjkipaipaobibaa.PFnExactFingOk
