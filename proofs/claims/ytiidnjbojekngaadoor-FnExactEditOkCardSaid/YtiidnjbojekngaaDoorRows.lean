/-
  NARROWER THAN 'FOR EVERY INPUT', by the rows' own cells (each row's printed sentence says how): FnExactRuneAt: laid · FnExactRuneSize: laid · FnExactTextOk: laid · FnExactCutOk: laid · FnExactRuneCount: laid · FnExactSelOk: laid · FnExactChunkOk: laid · FnExactRunesTo: laid · FnExactPlaceOf: laid · FnExactReplyOk: laid · FnExactEditOk: laid.
  DERIVED. THE GIVEN ROWS OF THIS SEAT. 11 by the template 'for every input the law returns true; each argument reads behind the call as it read before'; 0 by the template 'total and deterministic' (their statements: YtiidnjbojekngaaDoorTotals.lean).
  GIVEN WITH THE SEED: the statements are not yours to turn. If you find one false, say at which input.
  Laid BY PROGRAM, IN A SANDBOX (cutbox-rows.mjs): the forced cells as the released guide's own fill.sh prints them over the translation 76b6e41b428ab25d… (all of the seat's roots in one cut). By AI agents, Wed Nov 11 2026. No macro, syntax, notation, axiom, sorry.
-/
import Derived.Test.YtiidnjbojekngaaDoorChecked
import GoSem.PinnedTables
import GoSem.Claim
import GoSem.ClaimJoined
import GoSem.ClaimMapViews
import Derived.JoinedTies
import Derived.KernelRfl
namespace Go.Proofs.YtiidnjbojekngaaDoor
/- THE CELL 'sum', in the pinned program and in every row, IS THE sha256 OF THE DUMP (.gsa) THAT YtiidnjbojekngaaDoorProg.lean LOADS. Nothing in Lean hashes anything: it is a label: what it is worth is what the hold of that sum in a sandbox is worth. -/
noncomputable def Tryd.pinned : Pinned := { name := "ytiidnjbojekngaadoor", sum := "76b6e41b428ab25d79b964df510275051f733808a57af494b6a99fa58465f807", checked := Tryd.checked }
namespace Rows
def none {H : Type} : Left H := { results := [], args := [] }

/- WHAT THE LISTED PACKAGE-LEVEL VARIABLES READ AS WHEN THE CALL BEGINS. Each datum BY PROGRAM (the guide's laid-datum.mjs) off the statement by which the dump's own 'gosem.cut.vars' lays the variable. In a bare row this is a premise. The card (YtiidnjbojekngaaDoorCards.lean) ties it to the program's text. -/
def laid_unicode_utf8_acceptRanges {H : Type} : DataW H := .agg [.agg [.lit (.int .u8 128), .lit (.int .u8 191)], .agg [.lit (.int .u8 160), .lit (.int .u8 191)], .agg [.lit (.int .u8 128), .lit (.int .u8 159)], .agg [.lit (.int .u8 144), .lit (.int .u8 191)], .agg [.lit (.int .u8 128), .lit (.int .u8 143)], .agg [.lit (.int .u8 0), .lit (.int .u8 0)], .agg [.lit (.int .u8 0), .lit (.int .u8 0)], .agg [.lit (.int .u8 0), .lit (.int .u8 0)], .agg [.lit (.int .u8 0), .lit (.int .u8 0)], .agg [.lit (.int .u8 0), .lit (.int .u8 0)], .agg [.lit (.int .u8 0), .lit (.int .u8 0)], .agg [.lit (.int .u8 0), .lit (.int .u8 0)], .agg [.lit (.int .u8 0), .lit (.int .u8 0)], .agg [.lit (.int .u8 0), .lit (.int .u8 0)], .agg [.lit (.int .u8 0), .lit (.int .u8 0)], .agg [.lit (.int .u8 0), .lit (.int .u8 0)]]
/-- One of Go's own tables, pinned by name: the form's constant. -/
def laid_unicode_utf8_first : DataW Unit := Go.Pinned.utf8First

/-- 'laws.FnExactRuneAt': WHATEVER THE INPUT: true; the input reads as it did. -/
def fnExactRuneAtSpec : ChangeSpec := { name := "fnExactRuneAt", fn := fun _ => fun
  | [d1, d2] => { results := [.lit (.bool true)], args := [d1, d2] }
  | _ => none }
def fnExactRuneAtRow : OpenClaim := { program := "ytiidnjbojekngaadoor", sum := "76b6e41b428ab25d79b964df510275051f733808a57af494b6a99fa58465f807", func := "loop.example/g00677/laws.FnExactRuneAt", spec := "fnExactRuneAt", named := ["unicode/utf8.first", "unicode/utf8.acceptRanges"], apart := false, laid := [("unicode/utf8.acceptRanges", laid_unicode_utf8_acceptRanges), ("unicode/utf8.first", laid_unicode_utf8_first)] }
def FnExactRuneAtSaid : Prop := fnExactRuneAtRow.holds Tryd.pinned (OpenSpec.ofChange fnExactRuneAtSpec)

/-- ITS FALSE NEIGHBOUR: 'it returns false'. Refute it at one input. -/
def fnExactRuneAtWrong : ChangeSpec := { name := "fnExactRuneAt", fn := fun _ => fun
  | [d1, d2] => { results := [.lit (.bool false)], args := [d1, d2] }
  | _ => none }
def FnExactRuneAtWrongFalsely : Prop := fnExactRuneAtRow.holds Tryd.pinned (OpenSpec.ofChange fnExactRuneAtWrong)

/-- 'laws.FnExactRuneSize': WHATEVER THE INPUT: true; the input reads as it did. -/
def fnExactRuneSizeSpec : ChangeSpec := { name := "fnExactRuneSize", fn := fun _ => fun
  | [d1, d2] => { results := [.lit (.bool true)], args := [d1, d2] }
  | _ => none }
def fnExactRuneSizeRow : OpenClaim := { program := "ytiidnjbojekngaadoor", sum := "76b6e41b428ab25d79b964df510275051f733808a57af494b6a99fa58465f807", func := "loop.example/g00677/laws.FnExactRuneSize", spec := "fnExactRuneSize", named := ["unicode/utf8.first", "unicode/utf8.acceptRanges"], apart := false, laid := [("unicode/utf8.acceptRanges", laid_unicode_utf8_acceptRanges), ("unicode/utf8.first", laid_unicode_utf8_first)] }
def FnExactRuneSizeSaid : Prop := fnExactRuneSizeRow.holds Tryd.pinned (OpenSpec.ofChange fnExactRuneSizeSpec)

/-- ITS FALSE NEIGHBOUR: 'it returns false'. Refute it at one input. -/
def fnExactRuneSizeWrong : ChangeSpec := { name := "fnExactRuneSize", fn := fun _ => fun
  | [d1, d2] => { results := [.lit (.bool false)], args := [d1, d2] }
  | _ => none }
def FnExactRuneSizeWrongFalsely : Prop := fnExactRuneSizeRow.holds Tryd.pinned (OpenSpec.ofChange fnExactRuneSizeWrong)

/-- 'laws.FnExactTextOk': WHATEVER THE INPUT: true; the input reads as it did. -/
def fnExactTextOkSpec : ChangeSpec := { name := "fnExactTextOk", fn := fun _ => fun
  | [d] => { results := [.lit (.bool true)], args := [d] }
  | _ => none }
def fnExactTextOkRow : OpenClaim := { program := "ytiidnjbojekngaadoor", sum := "76b6e41b428ab25d79b964df510275051f733808a57af494b6a99fa58465f807", func := "loop.example/g00677/laws.FnExactTextOk", spec := "fnExactTextOk", named := ["unicode/utf8.first", "unicode/utf8.acceptRanges"], apart := false, laid := [("unicode/utf8.acceptRanges", laid_unicode_utf8_acceptRanges), ("unicode/utf8.first", laid_unicode_utf8_first)] }
def FnExactTextOkSaid : Prop := fnExactTextOkRow.holds Tryd.pinned (OpenSpec.ofChange fnExactTextOkSpec)

/-- ITS FALSE NEIGHBOUR: 'it returns false'. Refute it at one input. -/
def fnExactTextOkWrong : ChangeSpec := { name := "fnExactTextOk", fn := fun _ => fun
  | [d] => { results := [.lit (.bool false)], args := [d] }
  | _ => none }
def FnExactTextOkWrongFalsely : Prop := fnExactTextOkRow.holds Tryd.pinned (OpenSpec.ofChange fnExactTextOkWrong)

/-- 'laws.FnExactCutOk': WHATEVER THE INPUT: true; the input reads as it did. -/
def fnExactCutOkSpec : ChangeSpec := { name := "fnExactCutOk", fn := fun _ => fun
  | [d1, d2] => { results := [.lit (.bool true)], args := [d1, d2] }
  | _ => none }
def fnExactCutOkRow : OpenClaim := { program := "ytiidnjbojekngaadoor", sum := "76b6e41b428ab25d79b964df510275051f733808a57af494b6a99fa58465f807", func := "loop.example/g00677/laws.FnExactCutOk", spec := "fnExactCutOk", named := ["unicode/utf8.first", "unicode/utf8.acceptRanges"], apart := false, laid := [("unicode/utf8.acceptRanges", laid_unicode_utf8_acceptRanges), ("unicode/utf8.first", laid_unicode_utf8_first)] }
def FnExactCutOkSaid : Prop := fnExactCutOkRow.holds Tryd.pinned (OpenSpec.ofChange fnExactCutOkSpec)

/-- ITS FALSE NEIGHBOUR: 'it returns false'. Refute it at one input. -/
def fnExactCutOkWrong : ChangeSpec := { name := "fnExactCutOk", fn := fun _ => fun
  | [d1, d2] => { results := [.lit (.bool false)], args := [d1, d2] }
  | _ => none }
def FnExactCutOkWrongFalsely : Prop := fnExactCutOkRow.holds Tryd.pinned (OpenSpec.ofChange fnExactCutOkWrong)

/-- 'laws.FnExactRuneCount': WHATEVER THE INPUT: true; the input reads as it did. -/
def fnExactRuneCountSpec : ChangeSpec := { name := "fnExactRuneCount", fn := fun _ => fun
  | [d] => { results := [.lit (.bool true)], args := [d] }
  | _ => none }
def fnExactRuneCountRow : OpenClaim := { program := "ytiidnjbojekngaadoor", sum := "76b6e41b428ab25d79b964df510275051f733808a57af494b6a99fa58465f807", func := "loop.example/g00677/laws.FnExactRuneCount", spec := "fnExactRuneCount", named := ["unicode/utf8.first", "unicode/utf8.acceptRanges"], apart := false, laid := [("unicode/utf8.acceptRanges", laid_unicode_utf8_acceptRanges), ("unicode/utf8.first", laid_unicode_utf8_first)] }
def FnExactRuneCountSaid : Prop := fnExactRuneCountRow.holds Tryd.pinned (OpenSpec.ofChange fnExactRuneCountSpec)

/-- ITS FALSE NEIGHBOUR: 'it returns false'. Refute it at one input. -/
def fnExactRuneCountWrong : ChangeSpec := { name := "fnExactRuneCount", fn := fun _ => fun
  | [d] => { results := [.lit (.bool false)], args := [d] }
  | _ => none }
def FnExactRuneCountWrongFalsely : Prop := fnExactRuneCountRow.holds Tryd.pinned (OpenSpec.ofChange fnExactRuneCountWrong)

/-- 'laws.FnExactSelOk': WHATEVER THE INPUT: true; the input reads as it did. -/
def fnExactSelOkSpec : ChangeSpec := { name := "fnExactSelOk", fn := fun _ => fun
  | [d1, d2] => { results := [.lit (.bool true)], args := [d1, d2] }
  | _ => none }
def fnExactSelOkRow : OpenClaim := { program := "ytiidnjbojekngaadoor", sum := "76b6e41b428ab25d79b964df510275051f733808a57af494b6a99fa58465f807", func := "loop.example/g00677/laws.FnExactSelOk", spec := "fnExactSelOk", named := ["unicode/utf8.first", "unicode/utf8.acceptRanges"], apart := false, laid := [("unicode/utf8.acceptRanges", laid_unicode_utf8_acceptRanges), ("unicode/utf8.first", laid_unicode_utf8_first)] }
def FnExactSelOkSaid : Prop := fnExactSelOkRow.holds Tryd.pinned (OpenSpec.ofChange fnExactSelOkSpec)

/-- ITS FALSE NEIGHBOUR: 'it returns false'. Refute it at one input. -/
def fnExactSelOkWrong : ChangeSpec := { name := "fnExactSelOk", fn := fun _ => fun
  | [d1, d2] => { results := [.lit (.bool false)], args := [d1, d2] }
  | _ => none }
def FnExactSelOkWrongFalsely : Prop := fnExactSelOkRow.holds Tryd.pinned (OpenSpec.ofChange fnExactSelOkWrong)

/-- 'laws.FnExactChunkOk': WHATEVER THE INPUT: true; the input reads as it did. -/
def fnExactChunkOkSpec : ChangeSpec := { name := "fnExactChunkOk", fn := fun _ => fun
  | [d] => { results := [.lit (.bool true)], args := [d] }
  | _ => none }
def fnExactChunkOkRow : OpenClaim := { program := "ytiidnjbojekngaadoor", sum := "76b6e41b428ab25d79b964df510275051f733808a57af494b6a99fa58465f807", func := "loop.example/g00677/laws.FnExactChunkOk", spec := "fnExactChunkOk", named := ["unicode/utf8.first", "unicode/utf8.acceptRanges"], apart := false, laid := [("unicode/utf8.acceptRanges", laid_unicode_utf8_acceptRanges), ("unicode/utf8.first", laid_unicode_utf8_first)] }
def FnExactChunkOkSaid : Prop := fnExactChunkOkRow.holds Tryd.pinned (OpenSpec.ofChange fnExactChunkOkSpec)

/-- ITS FALSE NEIGHBOUR: 'it returns false'. Refute it at one input. -/
def fnExactChunkOkWrong : ChangeSpec := { name := "fnExactChunkOk", fn := fun _ => fun
  | [d] => { results := [.lit (.bool false)], args := [d] }
  | _ => none }
def FnExactChunkOkWrongFalsely : Prop := fnExactChunkOkRow.holds Tryd.pinned (OpenSpec.ofChange fnExactChunkOkWrong)

/-- 'laws.FnExactRunesTo': WHATEVER THE INPUT: true; the input reads as it did. -/
def fnExactRunesToSpec : ChangeSpec := { name := "fnExactRunesTo", fn := fun _ => fun
  | [d1, d2] => { results := [.lit (.bool true)], args := [d1, d2] }
  | _ => none }
def fnExactRunesToRow : OpenClaim := { program := "ytiidnjbojekngaadoor", sum := "76b6e41b428ab25d79b964df510275051f733808a57af494b6a99fa58465f807", func := "loop.example/g00677/laws.FnExactRunesTo", spec := "fnExactRunesTo", named := ["unicode/utf8.first", "unicode/utf8.acceptRanges"], apart := false, laid := [("unicode/utf8.acceptRanges", laid_unicode_utf8_acceptRanges), ("unicode/utf8.first", laid_unicode_utf8_first)] }
def FnExactRunesToSaid : Prop := fnExactRunesToRow.holds Tryd.pinned (OpenSpec.ofChange fnExactRunesToSpec)

/-- ITS FALSE NEIGHBOUR: 'it returns false'. Refute it at one input. -/
def fnExactRunesToWrong : ChangeSpec := { name := "fnExactRunesTo", fn := fun _ => fun
  | [d1, d2] => { results := [.lit (.bool false)], args := [d1, d2] }
  | _ => none }
def FnExactRunesToWrongFalsely : Prop := fnExactRunesToRow.holds Tryd.pinned (OpenSpec.ofChange fnExactRunesToWrong)

/-- 'laws.FnExactPlaceOf': WHATEVER THE INPUT: true; the input reads as it did. -/
def fnExactPlaceOfSpec : ChangeSpec := { name := "fnExactPlaceOf", fn := fun _ => fun
  | [d1, d2] => { results := [.lit (.bool true)], args := [d1, d2] }
  | _ => none }
def fnExactPlaceOfRow : OpenClaim := { program := "ytiidnjbojekngaadoor", sum := "76b6e41b428ab25d79b964df510275051f733808a57af494b6a99fa58465f807", func := "loop.example/g00677/laws.FnExactPlaceOf", spec := "fnExactPlaceOf", named := ["unicode/utf8.first", "unicode/utf8.acceptRanges"], apart := false, laid := [("unicode/utf8.acceptRanges", laid_unicode_utf8_acceptRanges), ("unicode/utf8.first", laid_unicode_utf8_first)] }
def FnExactPlaceOfSaid : Prop := fnExactPlaceOfRow.holds Tryd.pinned (OpenSpec.ofChange fnExactPlaceOfSpec)

/-- ITS FALSE NEIGHBOUR: 'it returns false'. Refute it at one input. -/
def fnExactPlaceOfWrong : ChangeSpec := { name := "fnExactPlaceOf", fn := fun _ => fun
  | [d1, d2] => { results := [.lit (.bool false)], args := [d1, d2] }
  | _ => none }
def FnExactPlaceOfWrongFalsely : Prop := fnExactPlaceOfRow.holds Tryd.pinned (OpenSpec.ofChange fnExactPlaceOfWrong)

/-- 'laws.FnExactReplyOk': WHATEVER THE INPUT: true; the input reads as it did. -/
def fnExactReplyOkSpec : ChangeSpec := { name := "fnExactReplyOk", fn := fun _ => fun
  | [d] => { results := [.lit (.bool true)], args := [d] }
  | _ => none }
def fnExactReplyOkRow : OpenClaim := { program := "ytiidnjbojekngaadoor", sum := "76b6e41b428ab25d79b964df510275051f733808a57af494b6a99fa58465f807", func := "loop.example/g00677/laws.FnExactReplyOk", spec := "fnExactReplyOk", named := ["unicode/utf8.first", "unicode/utf8.acceptRanges"], apart := false, laid := [("unicode/utf8.acceptRanges", laid_unicode_utf8_acceptRanges), ("unicode/utf8.first", laid_unicode_utf8_first)] }
def FnExactReplyOkSaid : Prop := fnExactReplyOkRow.holds Tryd.pinned (OpenSpec.ofChange fnExactReplyOkSpec)

/-- ITS FALSE NEIGHBOUR: 'it returns false'. Refute it at one input. -/
def fnExactReplyOkWrong : ChangeSpec := { name := "fnExactReplyOk", fn := fun _ => fun
  | [d] => { results := [.lit (.bool false)], args := [d] }
  | _ => none }
def FnExactReplyOkWrongFalsely : Prop := fnExactReplyOkRow.holds Tryd.pinned (OpenSpec.ofChange fnExactReplyOkWrong)

/-- 'laws.FnExactEditOk': WHATEVER THE INPUT: true; the input reads as it did. -/
def fnExactEditOkSpec : ChangeSpec := { name := "fnExactEditOk", fn := fun _ => fun
  | [d1, d2] => { results := [.lit (.bool true)], args := [d1, d2] }
  | _ => none }
def fnExactEditOkRow : OpenClaim := { program := "ytiidnjbojekngaadoor", sum := "76b6e41b428ab25d79b964df510275051f733808a57af494b6a99fa58465f807", func := "loop.example/g00677/laws.FnExactEditOk", spec := "fnExactEditOk", named := ["unicode/utf8.first", "unicode/utf8.acceptRanges"], apart := false, laid := [("unicode/utf8.acceptRanges", laid_unicode_utf8_acceptRanges), ("unicode/utf8.first", laid_unicode_utf8_first)] }
def FnExactEditOkSaid : Prop := fnExactEditOkRow.holds Tryd.pinned (OpenSpec.ofChange fnExactEditOkSpec)

/-- ITS FALSE NEIGHBOUR: 'it returns false'. Refute it at one input. -/
def fnExactEditOkWrong : ChangeSpec := { name := "fnExactEditOk", fn := fun _ => fun
  | [d1, d2] => { results := [.lit (.bool false)], args := [d1, d2] }
  | _ => none }
def FnExactEditOkWrongFalsely : Prop := fnExactEditOkRow.holds Tryd.pinned (OpenSpec.ofChange fnExactEditOkWrong)

/- THE SECOND FORM. 'bulk': how many values and letters a reading holds, each counted each time it is reached (what is shared counts as often as it is met; a slice's spare places count too). A statement '..UptoSaid' is the law's where the arguments, and the package variables that the reading takes, are together of bulk at most 1048576: NARROWER than '..Said'. Prove '..Said' where nothing that the law and all that it calls make is longer than what came in: it says more and counts as full. Else prove '..UptoSaid'. A law counts once. -/
mutual
def uptoBulk {H : Type} : DataW H → Nat
  | .lit (.string bytes) => bytes.length + 1
  | .lit _ => 1
  | .nil => 1
  | .ptr d => uptoBulk d + 1
  | .slice elems spare => uptoBulkAll elems + uptoBulkAll spare + 1
  | .agg parts => uptoBulkAll parts + 1
  | .iface _ d => uptoBulk d + 1
  | .map entries => uptoBulkEntries entries + 1
  | .held _ => 1
def uptoBulkAll {H : Type} : List (DataW H) → Nat
  | [] => 0
  | d :: r => uptoBulk d + uptoBulkAll r
def uptoBulkEntries {H : Type} : List (Lit × DataW H) → Nat
  | [] => 0
  | x :: r => uptoBulkEntry x + uptoBulkEntries r
def uptoBulkEntry {H : Type} : Lit × DataW H → Nat
  | (.string bytes, d) => bytes.length + uptoBulk d + 1
  | (_, d) => uptoBulk d + 1
 end
def uptoSmall : (H : Type) → List (DataW H) → Bool := fun _ ds => decide (uptoBulkAll ds ≤ 1048576)
def OpenSpec.upto (s : _root_.Go.ChangeSpec) : _root_.Go.OpenSpec := { _root_.Go.OpenSpec.ofChange s with cond := some uptoSmall }

/-- 'laws.FnExactRuneAt', WHERE WHAT IT READS IS OF BULK AT MOST 1048576: true; the input reads as it did. -/
def fnExactRuneAtUptoRow : OpenClaim := { program := "ytiidnjbojekngaadoor", sum := "76b6e41b428ab25d79b964df510275051f733808a57af494b6a99fa58465f807", func := "loop.example/g00677/laws.FnExactRuneAt", spec := "fnExactRuneAt", named := ["unicode/utf8.first", "unicode/utf8.acceptRanges"], apart := false, laid := [("unicode/utf8.acceptRanges", laid_unicode_utf8_acceptRanges), ("unicode/utf8.first", laid_unicode_utf8_first)], narrowed := true }
def FnExactRuneAtUptoSaid : Prop := fnExactRuneAtUptoRow.holds Tryd.pinned (OpenSpec.upto fnExactRuneAtSpec)

/-- 'laws.FnExactRuneSize', WHERE WHAT IT READS IS OF BULK AT MOST 1048576: true; the input reads as it did. -/
def fnExactRuneSizeUptoRow : OpenClaim := { program := "ytiidnjbojekngaadoor", sum := "76b6e41b428ab25d79b964df510275051f733808a57af494b6a99fa58465f807", func := "loop.example/g00677/laws.FnExactRuneSize", spec := "fnExactRuneSize", named := ["unicode/utf8.first", "unicode/utf8.acceptRanges"], apart := false, laid := [("unicode/utf8.acceptRanges", laid_unicode_utf8_acceptRanges), ("unicode/utf8.first", laid_unicode_utf8_first)], narrowed := true }
def FnExactRuneSizeUptoSaid : Prop := fnExactRuneSizeUptoRow.holds Tryd.pinned (OpenSpec.upto fnExactRuneSizeSpec)

/-- 'laws.FnExactTextOk', WHERE WHAT IT READS IS OF BULK AT MOST 1048576: true; the input reads as it did. -/
def fnExactTextOkUptoRow : OpenClaim := { program := "ytiidnjbojekngaadoor", sum := "76b6e41b428ab25d79b964df510275051f733808a57af494b6a99fa58465f807", func := "loop.example/g00677/laws.FnExactTextOk", spec := "fnExactTextOk", named := ["unicode/utf8.first", "unicode/utf8.acceptRanges"], apart := false, laid := [("unicode/utf8.acceptRanges", laid_unicode_utf8_acceptRanges), ("unicode/utf8.first", laid_unicode_utf8_first)], narrowed := true }
def FnExactTextOkUptoSaid : Prop := fnExactTextOkUptoRow.holds Tryd.pinned (OpenSpec.upto fnExactTextOkSpec)

/-- 'laws.FnExactCutOk', WHERE WHAT IT READS IS OF BULK AT MOST 1048576: true; the input reads as it did. -/
def fnExactCutOkUptoRow : OpenClaim := { program := "ytiidnjbojekngaadoor", sum := "76b6e41b428ab25d79b964df510275051f733808a57af494b6a99fa58465f807", func := "loop.example/g00677/laws.FnExactCutOk", spec := "fnExactCutOk", named := ["unicode/utf8.first", "unicode/utf8.acceptRanges"], apart := false, laid := [("unicode/utf8.acceptRanges", laid_unicode_utf8_acceptRanges), ("unicode/utf8.first", laid_unicode_utf8_first)], narrowed := true }
def FnExactCutOkUptoSaid : Prop := fnExactCutOkUptoRow.holds Tryd.pinned (OpenSpec.upto fnExactCutOkSpec)

/-- 'laws.FnExactRuneCount', WHERE WHAT IT READS IS OF BULK AT MOST 1048576: true; the input reads as it did. -/
def fnExactRuneCountUptoRow : OpenClaim := { program := "ytiidnjbojekngaadoor", sum := "76b6e41b428ab25d79b964df510275051f733808a57af494b6a99fa58465f807", func := "loop.example/g00677/laws.FnExactRuneCount", spec := "fnExactRuneCount", named := ["unicode/utf8.first", "unicode/utf8.acceptRanges"], apart := false, laid := [("unicode/utf8.acceptRanges", laid_unicode_utf8_acceptRanges), ("unicode/utf8.first", laid_unicode_utf8_first)], narrowed := true }
def FnExactRuneCountUptoSaid : Prop := fnExactRuneCountUptoRow.holds Tryd.pinned (OpenSpec.upto fnExactRuneCountSpec)

/-- 'laws.FnExactSelOk', WHERE WHAT IT READS IS OF BULK AT MOST 1048576: true; the input reads as it did. -/
def fnExactSelOkUptoRow : OpenClaim := { program := "ytiidnjbojekngaadoor", sum := "76b6e41b428ab25d79b964df510275051f733808a57af494b6a99fa58465f807", func := "loop.example/g00677/laws.FnExactSelOk", spec := "fnExactSelOk", named := ["unicode/utf8.first", "unicode/utf8.acceptRanges"], apart := false, laid := [("unicode/utf8.acceptRanges", laid_unicode_utf8_acceptRanges), ("unicode/utf8.first", laid_unicode_utf8_first)], narrowed := true }
def FnExactSelOkUptoSaid : Prop := fnExactSelOkUptoRow.holds Tryd.pinned (OpenSpec.upto fnExactSelOkSpec)

/-- 'laws.FnExactChunkOk', WHERE WHAT IT READS IS OF BULK AT MOST 1048576: true; the input reads as it did. -/
def fnExactChunkOkUptoRow : OpenClaim := { program := "ytiidnjbojekngaadoor", sum := "76b6e41b428ab25d79b964df510275051f733808a57af494b6a99fa58465f807", func := "loop.example/g00677/laws.FnExactChunkOk", spec := "fnExactChunkOk", named := ["unicode/utf8.first", "unicode/utf8.acceptRanges"], apart := false, laid := [("unicode/utf8.acceptRanges", laid_unicode_utf8_acceptRanges), ("unicode/utf8.first", laid_unicode_utf8_first)], narrowed := true }
def FnExactChunkOkUptoSaid : Prop := fnExactChunkOkUptoRow.holds Tryd.pinned (OpenSpec.upto fnExactChunkOkSpec)

/-- 'laws.FnExactRunesTo', WHERE WHAT IT READS IS OF BULK AT MOST 1048576: true; the input reads as it did. -/
def fnExactRunesToUptoRow : OpenClaim := { program := "ytiidnjbojekngaadoor", sum := "76b6e41b428ab25d79b964df510275051f733808a57af494b6a99fa58465f807", func := "loop.example/g00677/laws.FnExactRunesTo", spec := "fnExactRunesTo", named := ["unicode/utf8.first", "unicode/utf8.acceptRanges"], apart := false, laid := [("unicode/utf8.acceptRanges", laid_unicode_utf8_acceptRanges), ("unicode/utf8.first", laid_unicode_utf8_first)], narrowed := true }
def FnExactRunesToUptoSaid : Prop := fnExactRunesToUptoRow.holds Tryd.pinned (OpenSpec.upto fnExactRunesToSpec)

/-- 'laws.FnExactPlaceOf', WHERE WHAT IT READS IS OF BULK AT MOST 1048576: true; the input reads as it did. -/
def fnExactPlaceOfUptoRow : OpenClaim := { program := "ytiidnjbojekngaadoor", sum := "76b6e41b428ab25d79b964df510275051f733808a57af494b6a99fa58465f807", func := "loop.example/g00677/laws.FnExactPlaceOf", spec := "fnExactPlaceOf", named := ["unicode/utf8.first", "unicode/utf8.acceptRanges"], apart := false, laid := [("unicode/utf8.acceptRanges", laid_unicode_utf8_acceptRanges), ("unicode/utf8.first", laid_unicode_utf8_first)], narrowed := true }
def FnExactPlaceOfUptoSaid : Prop := fnExactPlaceOfUptoRow.holds Tryd.pinned (OpenSpec.upto fnExactPlaceOfSpec)

/-- 'laws.FnExactReplyOk', WHERE WHAT IT READS IS OF BULK AT MOST 1048576: true; the input reads as it did. -/
def fnExactReplyOkUptoRow : OpenClaim := { program := "ytiidnjbojekngaadoor", sum := "76b6e41b428ab25d79b964df510275051f733808a57af494b6a99fa58465f807", func := "loop.example/g00677/laws.FnExactReplyOk", spec := "fnExactReplyOk", named := ["unicode/utf8.first", "unicode/utf8.acceptRanges"], apart := false, laid := [("unicode/utf8.acceptRanges", laid_unicode_utf8_acceptRanges), ("unicode/utf8.first", laid_unicode_utf8_first)], narrowed := true }
def FnExactReplyOkUptoSaid : Prop := fnExactReplyOkUptoRow.holds Tryd.pinned (OpenSpec.upto fnExactReplyOkSpec)

/-- 'laws.FnExactEditOk', WHERE WHAT IT READS IS OF BULK AT MOST 1048576: true; the input reads as it did. -/
def fnExactEditOkUptoRow : OpenClaim := { program := "ytiidnjbojekngaadoor", sum := "76b6e41b428ab25d79b964df510275051f733808a57af494b6a99fa58465f807", func := "loop.example/g00677/laws.FnExactEditOk", spec := "fnExactEditOk", named := ["unicode/utf8.first", "unicode/utf8.acceptRanges"], apart := false, laid := [("unicode/utf8.acceptRanges", laid_unicode_utf8_acceptRanges), ("unicode/utf8.first", laid_unicode_utf8_first)], narrowed := true }
def FnExactEditOkUptoSaid : Prop := fnExactEditOkUptoRow.holds Tryd.pinned (OpenSpec.upto fnExactEditOkSpec)

end Rows
end Go.Proofs.YtiidnjbojekngaaDoor
