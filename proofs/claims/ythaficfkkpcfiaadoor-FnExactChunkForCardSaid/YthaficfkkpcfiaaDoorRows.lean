/-
  NARROWER THAN 'FOR EVERY INPUT', by the rows' own cells (each row's printed sentence says how): FnExactChunksOk: laid · FnExactChunksOf: laid · FnExactChunkFor: laid · FnExactChunksText: laid · FnExactRopeOk: laid · FnExactRopeOf: laid · FnExactRopeText: laid · FnExactRopeSlice: laid · FnExactMeasOf: laid · FnExactRopeMeas: laid · FnExactReqOk: laid · FnExactReplyRead: laid.
  DERIVED. THE GIVEN ROWS OF THIS SEAT. 12 by the template 'for every input the law returns true; each argument reads behind the call as it read before'; 0 by the template 'total and deterministic' (their statements: YthaficfkkpcfiaaDoorTotals.lean).
  GIVEN WITH THE SEED: the statements are not yours to turn. If you find one false, say at which input.
  Laid BY PROGRAM, IN A SANDBOX (cutbox-rows.mjs): the forced cells as the released guide's own fill.sh prints them over the translation 7c70302da3a726f7… (all of the seat's roots in one cut). By AI agents, Wed Nov 11 2026. No macro, syntax, notation, axiom, sorry.
-/
import Derived.Test.YthaficfkkpcfiaaDoorChecked
import GoSem.PinnedTables
import GoSem.Claim
import GoSem.ClaimJoined
import GoSem.ClaimMapViews
import Derived.JoinedTies
import Derived.KernelRfl
namespace Go.Proofs.YthaficfkkpcfiaaDoor
/- THE CELL 'sum', in the pinned program and in every row, IS THE sha256 OF THE DUMP (.gsa) THAT YthaficfkkpcfiaaDoorProg.lean LOADS. Nothing in Lean hashes anything: it is a label: what it is worth is what the hold of that sum in a sandbox is worth. -/
noncomputable def Tryd.pinned : Pinned := { name := "ythaficfkkpcfiaadoor", sum := "7c70302da3a726f7c1698adc920dec89dcd5e19e93e26a553034f782a72e3850", checked := Tryd.checked }
namespace Rows
def none {H : Type} : Left H := { results := [], args := [] }

/- WHAT THE LISTED PACKAGE-LEVEL VARIABLES READ AS WHEN THE CALL BEGINS. Each datum BY PROGRAM (the guide's laid-datum.mjs) off the statement by which the dump's own 'gosem.cut.vars' lays the variable. In a bare row this is a premise. The card (YthaficfkkpcfiaaDoorCards.lean) ties it to the program's text. -/
def laid_unicode_utf8_acceptRanges {H : Type} : DataW H := .agg [.agg [.lit (.int .u8 128), .lit (.int .u8 191)], .agg [.lit (.int .u8 160), .lit (.int .u8 191)], .agg [.lit (.int .u8 128), .lit (.int .u8 159)], .agg [.lit (.int .u8 144), .lit (.int .u8 191)], .agg [.lit (.int .u8 128), .lit (.int .u8 143)], .agg [.lit (.int .u8 0), .lit (.int .u8 0)], .agg [.lit (.int .u8 0), .lit (.int .u8 0)], .agg [.lit (.int .u8 0), .lit (.int .u8 0)], .agg [.lit (.int .u8 0), .lit (.int .u8 0)], .agg [.lit (.int .u8 0), .lit (.int .u8 0)], .agg [.lit (.int .u8 0), .lit (.int .u8 0)], .agg [.lit (.int .u8 0), .lit (.int .u8 0)], .agg [.lit (.int .u8 0), .lit (.int .u8 0)], .agg [.lit (.int .u8 0), .lit (.int .u8 0)], .agg [.lit (.int .u8 0), .lit (.int .u8 0)], .agg [.lit (.int .u8 0), .lit (.int .u8 0)]]
/-- One of Go's own tables, pinned by name: the form's constant. -/
def laid_unicode_utf8_first : DataW Unit := Go.Pinned.utf8First

/-- 'laws.FnExactChunksOk': WHATEVER THE INPUT: true; the input reads as it did. -/
def fnExactChunksOkSpec : ChangeSpec := { name := "fnExactChunksOk", fn := fun _ => fun
  | [d] => { results := [.lit (.bool true)], args := [d] }
  | _ => none }
def fnExactChunksOkRow : OpenClaim := { program := "ythaficfkkpcfiaadoor", sum := "7c70302da3a726f7c1698adc920dec89dcd5e19e93e26a553034f782a72e3850", func := "loop.example/g00677/laws.FnExactChunksOk", spec := "fnExactChunksOk", named := ["unicode/utf8.first", "unicode/utf8.acceptRanges"], apart := false, laid := [("unicode/utf8.acceptRanges", laid_unicode_utf8_acceptRanges), ("unicode/utf8.first", laid_unicode_utf8_first)] }
def FnExactChunksOkSaid : Prop := fnExactChunksOkRow.holds Tryd.pinned (OpenSpec.ofChange fnExactChunksOkSpec)

/-- ITS FALSE NEIGHBOUR: 'it returns false'. Refute it at one input. -/
def fnExactChunksOkWrong : ChangeSpec := { name := "fnExactChunksOk", fn := fun _ => fun
  | [d] => { results := [.lit (.bool false)], args := [d] }
  | _ => none }
def FnExactChunksOkWrongFalsely : Prop := fnExactChunksOkRow.holds Tryd.pinned (OpenSpec.ofChange fnExactChunksOkWrong)

/-- 'laws.FnExactChunksOf': WHATEVER THE INPUT: true; the input reads as it did. -/
def fnExactChunksOfSpec : ChangeSpec := { name := "fnExactChunksOf", fn := fun _ => fun
  | [d] => { results := [.lit (.bool true)], args := [d] }
  | _ => none }
def fnExactChunksOfRow : OpenClaim := { program := "ythaficfkkpcfiaadoor", sum := "7c70302da3a726f7c1698adc920dec89dcd5e19e93e26a553034f782a72e3850", func := "loop.example/g00677/laws.FnExactChunksOf", spec := "fnExactChunksOf", named := ["unicode/utf8.first", "unicode/utf8.acceptRanges"], apart := false, laid := [("unicode/utf8.acceptRanges", laid_unicode_utf8_acceptRanges), ("unicode/utf8.first", laid_unicode_utf8_first)] }
def FnExactChunksOfSaid : Prop := fnExactChunksOfRow.holds Tryd.pinned (OpenSpec.ofChange fnExactChunksOfSpec)

/-- ITS FALSE NEIGHBOUR: 'it returns false'. Refute it at one input. -/
def fnExactChunksOfWrong : ChangeSpec := { name := "fnExactChunksOf", fn := fun _ => fun
  | [d] => { results := [.lit (.bool false)], args := [d] }
  | _ => none }
def FnExactChunksOfWrongFalsely : Prop := fnExactChunksOfRow.holds Tryd.pinned (OpenSpec.ofChange fnExactChunksOfWrong)

/-- 'laws.FnExactChunkFor': WHATEVER THE INPUT: true; the input reads as it did. -/
def fnExactChunkForSpec : ChangeSpec := { name := "fnExactChunkFor", fn := fun _ => fun
  | [d1, d2] => { results := [.lit (.bool true)], args := [d1, d2] }
  | _ => none }
def fnExactChunkForRow : OpenClaim := { program := "ythaficfkkpcfiaadoor", sum := "7c70302da3a726f7c1698adc920dec89dcd5e19e93e26a553034f782a72e3850", func := "loop.example/g00677/laws.FnExactChunkFor", spec := "fnExactChunkFor", named := ["unicode/utf8.first", "unicode/utf8.acceptRanges"], apart := false, laid := [("unicode/utf8.acceptRanges", laid_unicode_utf8_acceptRanges), ("unicode/utf8.first", laid_unicode_utf8_first)] }
def FnExactChunkForSaid : Prop := fnExactChunkForRow.holds Tryd.pinned (OpenSpec.ofChange fnExactChunkForSpec)

/-- ITS FALSE NEIGHBOUR: 'it returns false'. Refute it at one input. -/
def fnExactChunkForWrong : ChangeSpec := { name := "fnExactChunkFor", fn := fun _ => fun
  | [d1, d2] => { results := [.lit (.bool false)], args := [d1, d2] }
  | _ => none }
def FnExactChunkForWrongFalsely : Prop := fnExactChunkForRow.holds Tryd.pinned (OpenSpec.ofChange fnExactChunkForWrong)

/-- 'laws.FnExactChunksText': WHATEVER THE INPUT: true; the input reads as it did. -/
def fnExactChunksTextSpec : ChangeSpec := { name := "fnExactChunksText", fn := fun _ => fun
  | [d] => { results := [.lit (.bool true)], args := [d] }
  | _ => none }
def fnExactChunksTextRow : OpenClaim := { program := "ythaficfkkpcfiaadoor", sum := "7c70302da3a726f7c1698adc920dec89dcd5e19e93e26a553034f782a72e3850", func := "loop.example/g00677/laws.FnExactChunksText", spec := "fnExactChunksText", named := ["unicode/utf8.first", "unicode/utf8.acceptRanges"], apart := false, laid := [("unicode/utf8.acceptRanges", laid_unicode_utf8_acceptRanges), ("unicode/utf8.first", laid_unicode_utf8_first)] }
def FnExactChunksTextSaid : Prop := fnExactChunksTextRow.holds Tryd.pinned (OpenSpec.ofChange fnExactChunksTextSpec)

/-- ITS FALSE NEIGHBOUR: 'it returns false'. Refute it at one input. -/
def fnExactChunksTextWrong : ChangeSpec := { name := "fnExactChunksText", fn := fun _ => fun
  | [d] => { results := [.lit (.bool false)], args := [d] }
  | _ => none }
def FnExactChunksTextWrongFalsely : Prop := fnExactChunksTextRow.holds Tryd.pinned (OpenSpec.ofChange fnExactChunksTextWrong)

/-- 'laws.FnExactRopeOk': WHATEVER THE INPUT: true; the input reads as it did. -/
def fnExactRopeOkSpec : ChangeSpec := { name := "fnExactRopeOk", fn := fun _ => fun
  | [d] => { results := [.lit (.bool true)], args := [d] }
  | _ => none }
def fnExactRopeOkRow : OpenClaim := { program := "ythaficfkkpcfiaadoor", sum := "7c70302da3a726f7c1698adc920dec89dcd5e19e93e26a553034f782a72e3850", func := "loop.example/g00677/laws.FnExactRopeOk", spec := "fnExactRopeOk", named := ["unicode/utf8.first", "unicode/utf8.acceptRanges"], apart := false, laid := [("unicode/utf8.acceptRanges", laid_unicode_utf8_acceptRanges), ("unicode/utf8.first", laid_unicode_utf8_first)] }
def FnExactRopeOkSaid : Prop := fnExactRopeOkRow.holds Tryd.pinned (OpenSpec.ofChange fnExactRopeOkSpec)

/-- ITS FALSE NEIGHBOUR: 'it returns false'. Refute it at one input. -/
def fnExactRopeOkWrong : ChangeSpec := { name := "fnExactRopeOk", fn := fun _ => fun
  | [d] => { results := [.lit (.bool false)], args := [d] }
  | _ => none }
def FnExactRopeOkWrongFalsely : Prop := fnExactRopeOkRow.holds Tryd.pinned (OpenSpec.ofChange fnExactRopeOkWrong)

/-- 'laws.FnExactRopeOf': WHATEVER THE INPUT: true; the input reads as it did. -/
def fnExactRopeOfSpec : ChangeSpec := { name := "fnExactRopeOf", fn := fun _ => fun
  | [d] => { results := [.lit (.bool true)], args := [d] }
  | _ => none }
def fnExactRopeOfRow : OpenClaim := { program := "ythaficfkkpcfiaadoor", sum := "7c70302da3a726f7c1698adc920dec89dcd5e19e93e26a553034f782a72e3850", func := "loop.example/g00677/laws.FnExactRopeOf", spec := "fnExactRopeOf", named := ["unicode/utf8.first", "unicode/utf8.acceptRanges"], apart := false, laid := [("unicode/utf8.acceptRanges", laid_unicode_utf8_acceptRanges), ("unicode/utf8.first", laid_unicode_utf8_first)] }
def FnExactRopeOfSaid : Prop := fnExactRopeOfRow.holds Tryd.pinned (OpenSpec.ofChange fnExactRopeOfSpec)

/-- ITS FALSE NEIGHBOUR: 'it returns false'. Refute it at one input. -/
def fnExactRopeOfWrong : ChangeSpec := { name := "fnExactRopeOf", fn := fun _ => fun
  | [d] => { results := [.lit (.bool false)], args := [d] }
  | _ => none }
def FnExactRopeOfWrongFalsely : Prop := fnExactRopeOfRow.holds Tryd.pinned (OpenSpec.ofChange fnExactRopeOfWrong)

/-- 'laws.FnExactRopeText': WHATEVER THE INPUT: true; the input reads as it did. -/
def fnExactRopeTextSpec : ChangeSpec := { name := "fnExactRopeText", fn := fun _ => fun
  | [d] => { results := [.lit (.bool true)], args := [d] }
  | _ => none }
def fnExactRopeTextRow : OpenClaim := { program := "ythaficfkkpcfiaadoor", sum := "7c70302da3a726f7c1698adc920dec89dcd5e19e93e26a553034f782a72e3850", func := "loop.example/g00677/laws.FnExactRopeText", spec := "fnExactRopeText", named := ["unicode/utf8.first", "unicode/utf8.acceptRanges"], apart := false, laid := [("unicode/utf8.acceptRanges", laid_unicode_utf8_acceptRanges), ("unicode/utf8.first", laid_unicode_utf8_first)] }
def FnExactRopeTextSaid : Prop := fnExactRopeTextRow.holds Tryd.pinned (OpenSpec.ofChange fnExactRopeTextSpec)

/-- ITS FALSE NEIGHBOUR: 'it returns false'. Refute it at one input. -/
def fnExactRopeTextWrong : ChangeSpec := { name := "fnExactRopeText", fn := fun _ => fun
  | [d] => { results := [.lit (.bool false)], args := [d] }
  | _ => none }
def FnExactRopeTextWrongFalsely : Prop := fnExactRopeTextRow.holds Tryd.pinned (OpenSpec.ofChange fnExactRopeTextWrong)

/-- 'laws.FnExactRopeSlice': WHATEVER THE INPUT: true; the input reads as it did. -/
def fnExactRopeSliceSpec : ChangeSpec := { name := "fnExactRopeSlice", fn := fun _ => fun
  | [d1, d2, d3] => { results := [.lit (.bool true)], args := [d1, d2, d3] }
  | _ => none }
def fnExactRopeSliceRow : OpenClaim := { program := "ythaficfkkpcfiaadoor", sum := "7c70302da3a726f7c1698adc920dec89dcd5e19e93e26a553034f782a72e3850", func := "loop.example/g00677/laws.FnExactRopeSlice", spec := "fnExactRopeSlice", named := ["unicode/utf8.first", "unicode/utf8.acceptRanges"], apart := false, laid := [("unicode/utf8.acceptRanges", laid_unicode_utf8_acceptRanges), ("unicode/utf8.first", laid_unicode_utf8_first)] }
def FnExactRopeSliceSaid : Prop := fnExactRopeSliceRow.holds Tryd.pinned (OpenSpec.ofChange fnExactRopeSliceSpec)

/-- ITS FALSE NEIGHBOUR: 'it returns false'. Refute it at one input. -/
def fnExactRopeSliceWrong : ChangeSpec := { name := "fnExactRopeSlice", fn := fun _ => fun
  | [d1, d2, d3] => { results := [.lit (.bool false)], args := [d1, d2, d3] }
  | _ => none }
def FnExactRopeSliceWrongFalsely : Prop := fnExactRopeSliceRow.holds Tryd.pinned (OpenSpec.ofChange fnExactRopeSliceWrong)

/-- 'laws.FnExactMeasOf': WHATEVER THE INPUT: true; the input reads as it did. -/
def fnExactMeasOfSpec : ChangeSpec := { name := "fnExactMeasOf", fn := fun _ => fun
  | [d] => { results := [.lit (.bool true)], args := [d] }
  | _ => none }
def fnExactMeasOfRow : OpenClaim := { program := "ythaficfkkpcfiaadoor", sum := "7c70302da3a726f7c1698adc920dec89dcd5e19e93e26a553034f782a72e3850", func := "loop.example/g00677/laws.FnExactMeasOf", spec := "fnExactMeasOf", inPlace := ["internal/bytealg.Count", "internal/bytealg.IndexByte", "internal/bytealg.Index"], named := ["unicode/utf8.first", "unicode/utf8.acceptRanges", "internal/bytealg.MaxLen"], apart := false, laid := [("unicode/utf8.acceptRanges", laid_unicode_utf8_acceptRanges), ("unicode/utf8.first", laid_unicode_utf8_first)] }
def FnExactMeasOfSaid : Prop := fnExactMeasOfRow.holds Tryd.pinned (OpenSpec.ofChange fnExactMeasOfSpec)

/-- ITS FALSE NEIGHBOUR: 'it returns false'. Refute it at one input. -/
def fnExactMeasOfWrong : ChangeSpec := { name := "fnExactMeasOf", fn := fun _ => fun
  | [d] => { results := [.lit (.bool false)], args := [d] }
  | _ => none }
def FnExactMeasOfWrongFalsely : Prop := fnExactMeasOfRow.holds Tryd.pinned (OpenSpec.ofChange fnExactMeasOfWrong)

/-- 'laws.FnExactRopeMeas': WHATEVER THE INPUT: true; the input reads as it did. -/
def fnExactRopeMeasSpec : ChangeSpec := { name := "fnExactRopeMeas", fn := fun _ => fun
  | [d] => { results := [.lit (.bool true)], args := [d] }
  | _ => none }
def fnExactRopeMeasRow : OpenClaim := { program := "ythaficfkkpcfiaadoor", sum := "7c70302da3a726f7c1698adc920dec89dcd5e19e93e26a553034f782a72e3850", func := "loop.example/g00677/laws.FnExactRopeMeas", spec := "fnExactRopeMeas", inPlace := ["internal/bytealg.Count", "internal/bytealg.IndexByte", "internal/bytealg.Index"], named := ["unicode/utf8.first", "unicode/utf8.acceptRanges", "internal/bytealg.MaxLen"], apart := false, laid := [("unicode/utf8.acceptRanges", laid_unicode_utf8_acceptRanges), ("unicode/utf8.first", laid_unicode_utf8_first)] }
def FnExactRopeMeasSaid : Prop := fnExactRopeMeasRow.holds Tryd.pinned (OpenSpec.ofChange fnExactRopeMeasSpec)

/-- ITS FALSE NEIGHBOUR: 'it returns false'. Refute it at one input. -/
def fnExactRopeMeasWrong : ChangeSpec := { name := "fnExactRopeMeas", fn := fun _ => fun
  | [d] => { results := [.lit (.bool false)], args := [d] }
  | _ => none }
def FnExactRopeMeasWrongFalsely : Prop := fnExactRopeMeasRow.holds Tryd.pinned (OpenSpec.ofChange fnExactRopeMeasWrong)

/-- 'laws.FnExactReqOk': WHATEVER THE INPUT: true; the input reads as it did. -/
def fnExactReqOkSpec : ChangeSpec := { name := "fnExactReqOk", fn := fun _ => fun
  | [d] => { results := [.lit (.bool true)], args := [d] }
  | _ => none }
def fnExactReqOkRow : OpenClaim := { program := "ythaficfkkpcfiaadoor", sum := "7c70302da3a726f7c1698adc920dec89dcd5e19e93e26a553034f782a72e3850", func := "loop.example/g00677/laws.FnExactReqOk", spec := "fnExactReqOk", named := ["unicode/utf8.first", "unicode/utf8.acceptRanges"], apart := false, laid := [("unicode/utf8.acceptRanges", laid_unicode_utf8_acceptRanges), ("unicode/utf8.first", laid_unicode_utf8_first)] }
def FnExactReqOkSaid : Prop := fnExactReqOkRow.holds Tryd.pinned (OpenSpec.ofChange fnExactReqOkSpec)

/-- ITS FALSE NEIGHBOUR: 'it returns false'. Refute it at one input. -/
def fnExactReqOkWrong : ChangeSpec := { name := "fnExactReqOk", fn := fun _ => fun
  | [d] => { results := [.lit (.bool false)], args := [d] }
  | _ => none }
def FnExactReqOkWrongFalsely : Prop := fnExactReqOkRow.holds Tryd.pinned (OpenSpec.ofChange fnExactReqOkWrong)

/-- 'laws.FnExactReplyRead': WHATEVER THE INPUT: true; the input reads as it did. -/
def fnExactReplyReadSpec : ChangeSpec := { name := "fnExactReplyRead", fn := fun _ => fun
  | [d] => { results := [.lit (.bool true)], args := [d] }
  | _ => none }
def fnExactReplyReadRow : OpenClaim := { program := "ythaficfkkpcfiaadoor", sum := "7c70302da3a726f7c1698adc920dec89dcd5e19e93e26a553034f782a72e3850", func := "loop.example/g00677/laws.FnExactReplyRead", spec := "fnExactReplyRead", named := ["unicode/utf8.first", "unicode/utf8.acceptRanges"], apart := false, laid := [("unicode/utf8.acceptRanges", laid_unicode_utf8_acceptRanges), ("unicode/utf8.first", laid_unicode_utf8_first)] }
def FnExactReplyReadSaid : Prop := fnExactReplyReadRow.holds Tryd.pinned (OpenSpec.ofChange fnExactReplyReadSpec)

/-- ITS FALSE NEIGHBOUR: 'it returns false'. Refute it at one input. -/
def fnExactReplyReadWrong : ChangeSpec := { name := "fnExactReplyRead", fn := fun _ => fun
  | [d] => { results := [.lit (.bool false)], args := [d] }
  | _ => none }
def FnExactReplyReadWrongFalsely : Prop := fnExactReplyReadRow.holds Tryd.pinned (OpenSpec.ofChange fnExactReplyReadWrong)

/- THE SECOND FORM. 'bulk': how many values and letters a reading holds, each counted each time it is reached (what is shared counts as often as it is met; a slice's spare places count too). A statement '..UptoSaid' is the law's where the arguments, and the package variables that the reading takes, are together of bulk at most 1048576: NARROWER than '..Said'. Prove '..Said' where nothing that the law and all that it calls make is longer than what came in: it says more and counts as full. Else prove '..UptoSaid'. A law counts once. -/
mutual
def uptoBulk {H : Type} : DataW H → Nat
  | .lit (.string bytes) => bytes.length + 1
  | .lit _ => 1
  | .nil => 1
  | .ptr d => uptoBulk d + 1
  | .slice elems spare => uptoBulkAll elems + uptoBulkAll spare + 1
  | .agg parts => uptoBulkAll parts + 1
  | .iface _ d => uptoBulk d + 1
  | .map entries => uptoBulkEntries entries + 1
  | .held _ => 1
def uptoBulkAll {H : Type} : List (DataW H) → Nat
  | [] => 0
  | d :: r => uptoBulk d + uptoBulkAll r
def uptoBulkEntries {H : Type} : List (Lit × DataW H) → Nat
  | [] => 0
  | x :: r => uptoBulkEntry x + uptoBulkEntries r
def uptoBulkEntry {H : Type} : Lit × DataW H → Nat
  | (.string bytes, d) => bytes.length + uptoBulk d + 1
  | (_, d) => uptoBulk d + 1
 end
def uptoSmall : (H : Type) → List (DataW H) → Bool := fun _ ds => decide (uptoBulkAll ds ≤ 1048576)
def OpenSpec.upto (s : _root_.Go.ChangeSpec) : _root_.Go.OpenSpec := { _root_.Go.OpenSpec.ofChange s with cond := some uptoSmall }

/-- 'laws.FnExactChunksOk', WHERE WHAT IT READS IS OF BULK AT MOST 1048576: true; the input reads as it did. -/
def fnExactChunksOkUptoRow : OpenClaim := { program := "ythaficfkkpcfiaadoor", sum := "7c70302da3a726f7c1698adc920dec89dcd5e19e93e26a553034f782a72e3850", func := "loop.example/g00677/laws.FnExactChunksOk", spec := "fnExactChunksOk", named := ["unicode/utf8.first", "unicode/utf8.acceptRanges"], apart := false, laid := [("unicode/utf8.acceptRanges", laid_unicode_utf8_acceptRanges), ("unicode/utf8.first", laid_unicode_utf8_first)], narrowed := true }
def FnExactChunksOkUptoSaid : Prop := fnExactChunksOkUptoRow.holds Tryd.pinned (OpenSpec.upto fnExactChunksOkSpec)

/-- 'laws.FnExactChunksOf', WHERE WHAT IT READS IS OF BULK AT MOST 1048576: true; the input reads as it did. -/
def fnExactChunksOfUptoRow : OpenClaim := { program := "ythaficfkkpcfiaadoor", sum := "7c70302da3a726f7c1698adc920dec89dcd5e19e93e26a553034f782a72e3850", func := "loop.example/g00677/laws.FnExactChunksOf", spec := "fnExactChunksOf", named := ["unicode/utf8.first", "unicode/utf8.acceptRanges"], apart := false, laid := [("unicode/utf8.acceptRanges", laid_unicode_utf8_acceptRanges), ("unicode/utf8.first", laid_unicode_utf8_first)], narrowed := true }
def FnExactChunksOfUptoSaid : Prop := fnExactChunksOfUptoRow.holds Tryd.pinned (OpenSpec.upto fnExactChunksOfSpec)

/-- 'laws.FnExactChunkFor', WHERE WHAT IT READS IS OF BULK AT MOST 1048576: true; the input reads as it did. -/
def fnExactChunkForUptoRow : OpenClaim := { program := "ythaficfkkpcfiaadoor", sum := "7c70302da3a726f7c1698adc920dec89dcd5e19e93e26a553034f782a72e3850", func := "loop.example/g00677/laws.FnExactChunkFor", spec := "fnExactChunkFor", named := ["unicode/utf8.first", "unicode/utf8.acceptRanges"], apart := false, laid := [("unicode/utf8.acceptRanges", laid_unicode_utf8_acceptRanges), ("unicode/utf8.first", laid_unicode_utf8_first)], narrowed := true }
def FnExactChunkForUptoSaid : Prop := fnExactChunkForUptoRow.holds Tryd.pinned (OpenSpec.upto fnExactChunkForSpec)

/-- 'laws.FnExactChunksText', WHERE WHAT IT READS IS OF BULK AT MOST 1048576: true; the input reads as it did. -/
def fnExactChunksTextUptoRow : OpenClaim := { program := "ythaficfkkpcfiaadoor", sum := "7c70302da3a726f7c1698adc920dec89dcd5e19e93e26a553034f782a72e3850", func := "loop.example/g00677/laws.FnExactChunksText", spec := "fnExactChunksText", named := ["unicode/utf8.first", "unicode/utf8.acceptRanges"], apart := false, laid := [("unicode/utf8.acceptRanges", laid_unicode_utf8_acceptRanges), ("unicode/utf8.first", laid_unicode_utf8_first)], narrowed := true }
def FnExactChunksTextUptoSaid : Prop := fnExactChunksTextUptoRow.holds Tryd.pinned (OpenSpec.upto fnExactChunksTextSpec)

/-- 'laws.FnExactRopeOk', WHERE WHAT IT READS IS OF BULK AT MOST 1048576: true; the input reads as it did. -/
def fnExactRopeOkUptoRow : OpenClaim := { program := "ythaficfkkpcfiaadoor", sum := "7c70302da3a726f7c1698adc920dec89dcd5e19e93e26a553034f782a72e3850", func := "loop.example/g00677/laws.FnExactRopeOk", spec := "fnExactRopeOk", named := ["unicode/utf8.first", "unicode/utf8.acceptRanges"], apart := false, laid := [("unicode/utf8.acceptRanges", laid_unicode_utf8_acceptRanges), ("unicode/utf8.first", laid_unicode_utf8_first)], narrowed := true }
def FnExactRopeOkUptoSaid : Prop := fnExactRopeOkUptoRow.holds Tryd.pinned (OpenSpec.upto fnExactRopeOkSpec)

/-- 'laws.FnExactRopeOf', WHERE WHAT IT READS IS OF BULK AT MOST 1048576: true; the input reads as it did. -/
def fnExactRopeOfUptoRow : OpenClaim := { program := "ythaficfkkpcfiaadoor", sum := "7c70302da3a726f7c1698adc920dec89dcd5e19e93e26a553034f782a72e3850", func := "loop.example/g00677/laws.FnExactRopeOf", spec := "fnExactRopeOf", named := ["unicode/utf8.first", "unicode/utf8.acceptRanges"], apart := false, laid := [("unicode/utf8.acceptRanges", laid_unicode_utf8_acceptRanges), ("unicode/utf8.first", laid_unicode_utf8_first)], narrowed := true }
def FnExactRopeOfUptoSaid : Prop := fnExactRopeOfUptoRow.holds Tryd.pinned (OpenSpec.upto fnExactRopeOfSpec)

/-- 'laws.FnExactRopeText', WHERE WHAT IT READS IS OF BULK AT MOST 1048576: true; the input reads as it did. -/
def fnExactRopeTextUptoRow : OpenClaim := { program := "ythaficfkkpcfiaadoor", sum := "7c70302da3a726f7c1698adc920dec89dcd5e19e93e26a553034f782a72e3850", func := "loop.example/g00677/laws.FnExactRopeText", spec := "fnExactRopeText", named := ["unicode/utf8.first", "unicode/utf8.acceptRanges"], apart := false, laid := [("unicode/utf8.acceptRanges", laid_unicode_utf8_acceptRanges), ("unicode/utf8.first", laid_unicode_utf8_first)], narrowed := true }
def FnExactRopeTextUptoSaid : Prop := fnExactRopeTextUptoRow.holds Tryd.pinned (OpenSpec.upto fnExactRopeTextSpec)

/-- 'laws.FnExactRopeSlice', WHERE WHAT IT READS IS OF BULK AT MOST 1048576: true; the input reads as it did. -/
def fnExactRopeSliceUptoRow : OpenClaim := { program := "ythaficfkkpcfiaadoor", sum := "7c70302da3a726f7c1698adc920dec89dcd5e19e93e26a553034f782a72e3850", func := "loop.example/g00677/laws.FnExactRopeSlice", spec := "fnExactRopeSlice", named := ["unicode/utf8.first", "unicode/utf8.acceptRanges"], apart := false, laid := [("unicode/utf8.acceptRanges", laid_unicode_utf8_acceptRanges), ("unicode/utf8.first", laid_unicode_utf8_first)], narrowed := true }
def FnExactRopeSliceUptoSaid : Prop := fnExactRopeSliceUptoRow.holds Tryd.pinned (OpenSpec.upto fnExactRopeSliceSpec)

/-- 'laws.FnExactMeasOf', WHERE WHAT IT READS IS OF BULK AT MOST 1048576: true; the input reads as it did. -/
def fnExactMeasOfUptoRow : OpenClaim := { program := "ythaficfkkpcfiaadoor", sum := "7c70302da3a726f7c1698adc920dec89dcd5e19e93e26a553034f782a72e3850", func := "loop.example/g00677/laws.FnExactMeasOf", spec := "fnExactMeasOf", inPlace := ["internal/bytealg.Count", "internal/bytealg.IndexByte", "internal/bytealg.Index"], named := ["unicode/utf8.first", "unicode/utf8.acceptRanges", "internal/bytealg.MaxLen"], apart := false, laid := [("unicode/utf8.acceptRanges", laid_unicode_utf8_acceptRanges), ("unicode/utf8.first", laid_unicode_utf8_first)], narrowed := true }
def FnExactMeasOfUptoSaid : Prop := fnExactMeasOfUptoRow.holds Tryd.pinned (OpenSpec.upto fnExactMeasOfSpec)

/-- 'laws.FnExactRopeMeas', WHERE WHAT IT READS IS OF BULK AT MOST 1048576: true; the input reads as it did. -/
def fnExactRopeMeasUptoRow : OpenClaim := { program := "ythaficfkkpcfiaadoor", sum := "7c70302da3a726f7c1698adc920dec89dcd5e19e93e26a553034f782a72e3850", func := "loop.example/g00677/laws.FnExactRopeMeas", spec := "fnExactRopeMeas", inPlace := ["internal/bytealg.Count", "internal/bytealg.IndexByte", "internal/bytealg.Index"], named := ["unicode/utf8.first", "unicode/utf8.acceptRanges", "internal/bytealg.MaxLen"], apart := false, laid := [("unicode/utf8.acceptRanges", laid_unicode_utf8_acceptRanges), ("unicode/utf8.first", laid_unicode_utf8_first)], narrowed := true }
def FnExactRopeMeasUptoSaid : Prop := fnExactRopeMeasUptoRow.holds Tryd.pinned (OpenSpec.upto fnExactRopeMeasSpec)

/-- 'laws.FnExactReqOk', WHERE WHAT IT READS IS OF BULK AT MOST 1048576: true; the input reads as it did. -/
def fnExactReqOkUptoRow : OpenClaim := { program := "ythaficfkkpcfiaadoor", sum := "7c70302da3a726f7c1698adc920dec89dcd5e19e93e26a553034f782a72e3850", func := "loop.example/g00677/laws.FnExactReqOk", spec := "fnExactReqOk", named := ["unicode/utf8.first", "unicode/utf8.acceptRanges"], apart := false, laid := [("unicode/utf8.acceptRanges", laid_unicode_utf8_acceptRanges), ("unicode/utf8.first", laid_unicode_utf8_first)], narrowed := true }
def FnExactReqOkUptoSaid : Prop := fnExactReqOkUptoRow.holds Tryd.pinned (OpenSpec.upto fnExactReqOkSpec)

/-- 'laws.FnExactReplyRead', WHERE WHAT IT READS IS OF BULK AT MOST 1048576: true; the input reads as it did. -/
def fnExactReplyReadUptoRow : OpenClaim := { program := "ythaficfkkpcfiaadoor", sum := "7c70302da3a726f7c1698adc920dec89dcd5e19e93e26a553034f782a72e3850", func := "loop.example/g00677/laws.FnExactReplyRead", spec := "fnExactReplyRead", named := ["unicode/utf8.first", "unicode/utf8.acceptRanges"], apart := false, laid := [("unicode/utf8.acceptRanges", laid_unicode_utf8_acceptRanges), ("unicode/utf8.first", laid_unicode_utf8_first)], narrowed := true }
def FnExactReplyReadUptoSaid : Prop := fnExactReplyReadUptoRow.holds Tryd.pinned (OpenSpec.upto fnExactReplyReadSpec)

end Rows
end Go.Proofs.YthaficfkkpcfiaaDoor
