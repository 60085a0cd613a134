-- Written by wip/xprint.py (the session's program over the kit's printer) for the claim of FnExactShapeOk; Lean checks it.
import Derived.Test.YtjkipaipaobibaaProg
import Derived.Below
import Derived.Deep.Draws
import Derived.Deep.AppendLies
import Derived.Maps.AppendAt
import Derived.OwnWalk
import Derived.Laws.BytesArg
import Derived.Laws.MakeOwn
import Derived.Laws.OwnMore
import Derived.Deep.OwnRows
import Derived.Tactics
import Derived.Lib.ConvBytes
import Derived.Laws.Slices
import Derived.WalkKit
import Derived.KernelRfl
import Derived.RowKit3
import Derived.Deep.LoopGhost
import Derived.Deep.QuietTactic
import Derived.BigQuiet
import Derived.WideLaws
import Derived.Deep.DeepCutAuto
import Derived.Deep.CutBlock
import Derived.Deep.RegionHeld3
import Derived.Laws.Rows
import Derived.Lib.AppendStr
import Derived.ArgAppend
import Derived.Laws.IdiomCopy
import Derived.OrdersHeld
import Derived.Laws.BitsLemmas
import Derived.RowKit
import Derived.Lib.Bytealg
import Derived.Lib.Strings
import Derived.Laws.Externs
import Derived.Laws.Strings3
import Derived.Test.YtjkipaipaobibaaWWords
import Derived.Test.YtjkipaipaobibaaWLast
import Derived.Test.YtjkipaipaobibaaWTab
import Derived.Test.YtjkipaipaobibaaWFour
import Derived.Test.YtjkipaipaobibaaWQPut
import Derived.Test.YtjkipaipaobibaaWApart
import Derived.Test.YtjkipaipaobibaaWArr
import Derived.Test.YtjkipaipaobibaaWZeros
import Derived.Test.YtjkipaipaobibaaWFoot
import Derived.Test.YtjkipaipaobibaaWKept
import Derived.Test.YtjkipaipaobibaaWShare
import Derived.Test.YtjkipaipaobibaaWN
import Derived.Test.YtjkipaipaobibaaWFootNe
import Derived.Test.YtjkipaipaobibaaWAt
import Derived.Test.YtjkipaipaobibaaWEqStruct
import Derived.Test.YtjkipaipaobibaaWRepsOne
import Derived.Test.YtjkipaipaobibaaWInv
import Derived.Test.YtjkipaipaobibaaWInvWords
import Derived.Test.YtjkipaipaobibaaWGuard
import Derived.Test.YtjkipaipaobibaaWNEv
import Derived.Test.YtjkipaipaobibaaWMore
namespace Go.Proofs.Ytjkipaipaobibaa.PFnExactShapeOk
open Go.RowKit Go.Proofs.YtjkipaipaobibaaW.PrintWords Go.Proofs.YtjkipaipaobibaaW.PrintLast Go.Proofs.YtjkipaipaobibaaW.PrintMore
attribute [local go_sem] max2_int min2_int max_two min_two max_three min_three max_four min_four   -- for this text's walks alone
set_option linter.unusedVariables false
set_option linter.unusedSimpArgs false



def errW : Option Int → Value
  | none => .nilIface
  | some c => .iface 0 (.int .i64 c)
theorem errW_none : errW none = .nilIface := rfl
theorem errW_some (c : Int) : errW (some c) = .iface 0 (.int .i64 c) := rfl

theorem info9 : (Try.prog.info? 9).map (fun i => (i.zero, i.size, i.bytes)) = some (some (.string ⟨#[]⟩), 1, 16) := by kernel_rfl
-- the values' own types

end Go.Proofs.Ytjkipaipaobibaa.PFnExactShapeOk
