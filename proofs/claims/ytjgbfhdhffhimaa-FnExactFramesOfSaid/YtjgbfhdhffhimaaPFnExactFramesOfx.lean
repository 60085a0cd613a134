-- Written by wip/xprint.py (the session's program over the kit's printer) for the claim of FnExactFramesOf; Lean checks it.
import Derived.Test.YtjgbfhdhffhimaaPFnExactFramesOfx0
import Derived.Test.YtjgbfhdhffhimaaPFnExactFramesOfx1
import Derived.Test.YtjgbfhdhffhimaaPFnExactFramesOfx2
import Derived.Test.YtjgbfhdhffhimaaPFnExactFramesOfx3
import Derived.Test.YtjgbfhdhffhimaaPFnExactFramesOfx4
namespace Go.Proofs.Ytjgbfhdhffhimaa.PFnExactFramesOf
open Go.RowKit Go.Proofs.YtjgbfhdhffhimaaW.PrintWords Go.Proofs.YtjgbfhdhffhimaaW.PrintLast Go.Proofs.YtjgbfhdhffhimaaW.PrintMore
attribute [local go_sem] max2_int min2_int max_two min_two max_three min_three max_four min_four   -- for this text's walks alone
set_option linter.unusedVariables false
set_option linter.unusedSimpArgs false

end Go.Proofs.Ytjgbfhdhffhimaa.PFnExactFramesOf
