-- Written by wip/xprint.py (the session's program over the kit's printer) for the claim of FnExactFingText; Lean checks it.
import Derived.Test.YtjkipaipaobibaaPFnExactFingTextx0
import Derived.Test.YtjkipaipaobibaaPFnExactFingTextx1
import Derived.Test.YtjkipaipaobibaaPFnExactFingTextx2
import Derived.Test.YtjkipaipaobibaaPFnExactFingTextx3
import Derived.Test.YtjkipaipaobibaaPFnExactFingTextx4
import Derived.Test.YtjkipaipaobibaaPFnExactFingTextx5
import Derived.Test.YtjkipaipaobibaaPFnExactFingTextx6
import Derived.Test.YtjkipaipaobibaaPFnExactFingTextx7
import Derived.Test.YtjkipaipaobibaaPFnExactFingTextx8
import Derived.Test.YtjkipaipaobibaaPFnExactFingTextx9
namespace Go.Proofs.Ytjkipaipaobibaa.PFnExactFingText
open Go.RowKit Go.Proofs.YtjkipaipaobibaaW.PrintWords Go.Proofs.YtjkipaipaobibaaW.PrintLast Go.Proofs.YtjkipaipaobibaaW.PrintMore
attribute [local go_sem] max2_int min2_int max_two min_two max_three min_three max_four min_four   -- for this text's walks alone
set_option linter.unusedVariables false
set_option linter.unusedSimpArgs false

end Go.Proofs.Ytjkipaipaobibaa.PFnExactFingText
