-- Written by wip/xprint.py (the session's program over the kit's printer) for the claim of FnExactRuneBytes; Lean checks it.
import Derived.Test.YtcjonnddgklbfaaProg
import Derived.Below
import Derived.Deep.Draws
import Derived.Deep.AppendLies
import Derived.Maps.AppendAt
import Derived.OwnWalk
import Derived.Laws.BytesArg
import Derived.Laws.MakeOwn
import Derived.Laws.OwnMore
import Derived.Deep.OwnRows
import Derived.Tactics
import Derived.Lib.ConvBytes
import Derived.Laws.Slices
import Derived.WalkKit
import Derived.KernelRfl
import Derived.RowKit3
import Derived.Deep.LoopGhost
import Derived.Deep.QuietTactic
import Derived.BigQuiet
import Derived.WideLaws
import Derived.Deep.DeepCutAuto
import Derived.Deep.CutBlock
import Derived.Deep.RegionHeld3
import Derived.Laws.Rows
import Derived.Lib.AppendStr
import Derived.ArgAppend
import Derived.Laws.IdiomCopy
import Derived.OrdersHeld
import Derived.Laws.BitsLemmas
import Derived.RowKit
import Derived.Test.YtcjonnddgklbfaaWWords
import Derived.Test.YtcjonnddgklbfaaWLast
import Derived.Test.YtcjonnddgklbfaaWTab
import Derived.Test.YtcjonnddgklbfaaWFour
import Derived.Test.YtcjonnddgklbfaaWQPut
import Derived.Test.YtcjonnddgklbfaaWApart
import Derived.Test.YtcjonnddgklbfaaWArr
import Derived.Test.YtcjonnddgklbfaaWZeros
import Derived.Test.YtcjonnddgklbfaaWFoot
import Derived.Test.YtcjonnddgklbfaaWKept
import Derived.Test.YtcjonnddgklbfaaWShare
import Derived.Test.YtcjonnddgklbfaaWN
import Derived.Test.YtcjonnddgklbfaaWFootNe
import Derived.Test.YtcjonnddgklbfaaWAt
import Derived.Test.YtcjonnddgklbfaaWEqStruct
import Derived.Test.YtcjonnddgklbfaaWRepsOne
import Derived.Test.YtcjonnddgklbfaaWInv
import Derived.Test.YtcjonnddgklbfaaWInvWords
import Derived.Test.YtcjonnddgklbfaaWGuard
import Derived.Test.YtcjonnddgklbfaaWNEv
import Derived.Test.YtcjonnddgklbfaaWMore
namespace Go.Proofs.Ytcjonnddgklbfaa.PFnExactRuneBytes
open Go.RowKit Go.Proofs.YtcjonnddgklbfaaW.PrintWords Go.Proofs.YtcjonnddgklbfaaW.PrintLast Go.Proofs.YtcjonnddgklbfaaW.PrintMore
attribute [local go_sem] max2_int min2_int max_two min_two max_three min_three max_four min_four   -- for this text's walks alone
set_option linter.unusedVariables false
set_option linter.unusedSimpArgs false



def errW : Option Int → Value
  | none => .nilIface
  | some c => .iface 0 (.int .i64 c)
theorem errW_none : errW none = .nilIface := rfl
theorem errW_some (c : Int) : errW (some c) = .iface 0 (.int .i64 c) := rfl

theorem info5 : (Try.prog.info? 5).map (fun i => (i.zero, i.size, i.bytes)) = some (some (.int .u8 0), 1, 1) := by kernel_rfl
-- the values' own types

end Go.Proofs.Ytcjonnddgklbfaa.PFnExactRuneBytes
