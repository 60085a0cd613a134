-- Written by wip/xprint.py (the session's program over the kit's printer) for the claim of FnExactFingNew; Lean checks it.
import Derived.Test.YtgginlfbdhkepaaPFnExactFingNewx0
import Derived.Test.YtgginlfbdhkepaaPFnExactFingNewx1
import Derived.Test.YtgginlfbdhkepaaPFnExactFingNewx2
import Derived.Test.YtgginlfbdhkepaaPFnExactFingNewx3
import Derived.Test.YtgginlfbdhkepaaPFnExactFingNewx4
import Derived.Test.YtgginlfbdhkepaaPFnExactFingNewx5
namespace Go.Proofs.Ytgginlfbdhkepaa.PFnExactFingNew
open Go.RowKit Go.Proofs.YtgginlfbdhkepaaW.PrintWords Go.Proofs.YtgginlfbdhkepaaW.PrintLast Go.Proofs.YtgginlfbdhkepaaW.PrintMore
attribute [local go_sem] max2_int min2_int max_two min_two max_three min_three max_four min_four   -- for this text's walks alone
set_option linter.unusedVariables false
set_option linter.unusedSimpArgs false

end Go.Proofs.Ytgginlfbdhkepaa.PFnExactFingNew
