/-
  The law FnExactConstants in plain words: what the program's function computes is what the reference's computes. No memory, no machine.
-/
import Derived.Test.YtcjonnddgklbfaaPFnExactConstantsx
import Derived.Test.YtcjonnddgklbfaaGen
namespace Go.Proofs.Ytcjonnddgklbfaa.Pure
open Go.RowKit Go.Proofs.Ytcjonnddgklbfaa.PFnExactConstants Go.Proofs.YtcjonnddgklbfaaW.PrintWords Go.Proofs.YtcjonnddgklbfaaW.PrintLast Go.Proofs.YtcjonnddgklbfaaW.PrintMore Go.Proofs.Ytcjonnddgklbfaa.Gen
set_option linter.unusedVariables false
set_option linter.unusedSimpArgs false

theorem FnExactConstants : laws_FnExactConstants.Pure := rfl

end Go.Proofs.Ytcjonnddgklbfaa.Pure
