/-
  NARROWER THAN 'FOR EVERY INPUT', by the rows' own cells (each row's printed sentence says how): FnExactEditBack: laid · FnExactRopeFind: laid · FnExactReqOk: laid · FnExactReplyRead: laid.
  DERIVED. THE GIVEN ROWS OF THIS SEAT. 4 by the template 'for every input the law returns true; each argument reads behind the call as it read before'; 0 by the template 'total and deterministic' (their statements: YthbmijnpmffmkaaDoorTotals.lean).
  GIVEN WITH THE SEED: the statements are not yours to turn. If you find one false, say at which input.
  Laid BY PROGRAM, IN A SANDBOX (cutbox-rows.mjs): the forced cells as the released guide's own fill.sh prints them over the translation 6dedbc223868fca8… (all of the seat's roots in one cut). By AI agents, Wed Nov 11 2026. No macro, syntax, notation, axiom, sorry.
-/
import Derived.Test.YthbmijnpmffmkaaDoorChecked
import GoSem.PinnedTables
import GoSem.Claim
import GoSem.ClaimJoined
import GoSem.ClaimMapViews
import Derived.JoinedTies
import Derived.KernelRfl
namespace Go.Proofs.YthbmijnpmffmkaaDoor
/- THE CELL 'sum', in the pinned program and in every row, IS THE sha256 OF THE DUMP (.gsa) THAT YthbmijnpmffmkaaDoorProg.lean LOADS. Nothing in Lean hashes anything: it is a label: what it is worth is what the hold of that sum in a sandbox is worth. -/
noncomputable def Tryd.pinned : Pinned := { name := "ythbmijnpmffmkaadoor", sum := "6dedbc223868fca82a0b0888b2a481f63bf823744bf4b5550baf579043020c2d", checked := Tryd.checked }
namespace Rows
def none {H : Type} : Left H := { results := [], args := [] }

/- WHAT THE LISTED PACKAGE-LEVEL VARIABLES READ AS WHEN THE CALL BEGINS. Each datum BY PROGRAM (the guide's laid-datum.mjs) off the statement by which the dump's own 'gosem.cut.vars' lays the variable. In a bare row this is a premise. The card (YthbmijnpmffmkaaDoorCards.lean) ties it to the program's text. -/
def laid_unicode_utf8_acceptRanges {H : Type} : DataW H := .agg [.agg [.lit (.int .u8 128), .lit (.int .u8 191)], .agg [.lit (.int .u8 160), .lit (.int .u8 191)], .agg [.lit (.int .u8 128), .lit (.int .u8 159)], .agg [.lit (.int .u8 144), .lit (.int .u8 191)], .agg [.lit (.int .u8 128), .lit (.int .u8 143)], .agg [.lit (.int .u8 0), .lit (.int .u8 0)], .agg [.lit (.int .u8 0), .lit (.int .u8 0)], .agg [.lit (.int .u8 0), .lit (.int .u8 0)], .agg [.lit (.int .u8 0), .lit (.int .u8 0)], .agg [.lit (.int .u8 0), .lit (.int .u8 0)], .agg [.lit (.int .u8 0), .lit (.int .u8 0)], .agg [.lit (.int .u8 0), .lit (.int .u8 0)], .agg [.lit (.int .u8 0), .lit (.int .u8 0)], .agg [.lit (.int .u8 0), .lit (.int .u8 0)], .agg [.lit (.int .u8 0), .lit (.int .u8 0)], .agg [.lit (.int .u8 0), .lit (.int .u8 0)]]
/-- One of Go's own tables, pinned by name: the form's constant. -/
def laid_unicode_utf8_first : DataW Unit := Go.Pinned.utf8First

/-- 'laws.FnExactEditBack': WHATEVER THE INPUT: true; the input reads as it did. -/
def fnExactEditBackSpec : ChangeSpec := { name := "fnExactEditBack", fn := fun _ => fun
  | [d1, d2] => { results := [.lit (.bool true)], args := [d1, d2] }
  | _ => none }
def fnExactEditBackRow : OpenClaim := { program := "ythbmijnpmffmkaadoor", sum := "6dedbc223868fca82a0b0888b2a481f63bf823744bf4b5550baf579043020c2d", func := "loop.example/g00677/laws.FnExactEditBack", spec := "fnExactEditBack", named := ["unicode/utf8.first", "unicode/utf8.acceptRanges"], apart := false, laid := [("unicode/utf8.acceptRanges", laid_unicode_utf8_acceptRanges), ("unicode/utf8.first", laid_unicode_utf8_first)] }
def FnExactEditBackSaid : Prop := fnExactEditBackRow.holds Tryd.pinned (OpenSpec.ofChange fnExactEditBackSpec)

/-- ITS FALSE NEIGHBOUR: 'it returns false'. Refute it at one input. -/
def fnExactEditBackWrong : ChangeSpec := { name := "fnExactEditBack", fn := fun _ => fun
  | [d1, d2] => { results := [.lit (.bool false)], args := [d1, d2] }
  | _ => none }
def FnExactEditBackWrongFalsely : Prop := fnExactEditBackRow.holds Tryd.pinned (OpenSpec.ofChange fnExactEditBackWrong)

/-- 'laws.FnExactRopeFind': WHATEVER THE INPUT: true; the input reads as it did. -/
def fnExactRopeFindSpec : ChangeSpec := { name := "fnExactRopeFind", fn := fun _ => fun
  | [d1, d2, d3] => { results := [.lit (.bool true)], args := [d1, d2, d3] }
  | _ => none }
def fnExactRopeFindRow : OpenClaim := { program := "ythbmijnpmffmkaadoor", sum := "6dedbc223868fca82a0b0888b2a481f63bf823744bf4b5550baf579043020c2d", func := "loop.example/g00677/laws.FnExactRopeFind", spec := "fnExactRopeFind", inPlace := ["internal/bytealg.IndexByte", "internal/bytealg.Index"], named := ["unicode/utf8.first", "unicode/utf8.acceptRanges", "internal/bytealg.MaxLen"], apart := false, laid := [("unicode/utf8.acceptRanges", laid_unicode_utf8_acceptRanges), ("unicode/utf8.first", laid_unicode_utf8_first)] }
def FnExactRopeFindSaid : Prop := fnExactRopeFindRow.holds Tryd.pinned (OpenSpec.ofChange fnExactRopeFindSpec)

/-- ITS FALSE NEIGHBOUR: 'it returns false'. Refute it at one input. -/
def fnExactRopeFindWrong : ChangeSpec := { name := "fnExactRopeFind", fn := fun _ => fun
  | [d1, d2, d3] => { results := [.lit (.bool false)], args := [d1, d2, d3] }
  | _ => none }
def FnExactRopeFindWrongFalsely : Prop := fnExactRopeFindRow.holds Tryd.pinned (OpenSpec.ofChange fnExactRopeFindWrong)

/-- 'laws.FnExactReqOk': WHATEVER THE INPUT: true; the input reads as it did. -/
def fnExactReqOkSpec : ChangeSpec := { name := "fnExactReqOk", fn := fun _ => fun
  | [d] => { results := [.lit (.bool true)], args := [d] }
  | _ => none }
def fnExactReqOkRow : OpenClaim := { program := "ythbmijnpmffmkaadoor", sum := "6dedbc223868fca82a0b0888b2a481f63bf823744bf4b5550baf579043020c2d", func := "loop.example/g00677/laws.FnExactReqOk", spec := "fnExactReqOk", named := ["unicode/utf8.first", "unicode/utf8.acceptRanges"], apart := false, laid := [("unicode/utf8.acceptRanges", laid_unicode_utf8_acceptRanges), ("unicode/utf8.first", laid_unicode_utf8_first)] }
def FnExactReqOkSaid : Prop := fnExactReqOkRow.holds Tryd.pinned (OpenSpec.ofChange fnExactReqOkSpec)

/-- ITS FALSE NEIGHBOUR: 'it returns false'. Refute it at one input. -/
def fnExactReqOkWrong : ChangeSpec := { name := "fnExactReqOk", fn := fun _ => fun
  | [d] => { results := [.lit (.bool false)], args := [d] }
  | _ => none }
def FnExactReqOkWrongFalsely : Prop := fnExactReqOkRow.holds Tryd.pinned (OpenSpec.ofChange fnExactReqOkWrong)

/-- 'laws.FnExactReplyRead': WHATEVER THE INPUT: true; the input reads as it did. -/
def fnExactReplyReadSpec : ChangeSpec := { name := "fnExactReplyRead", fn := fun _ => fun
  | [d] => { results := [.lit (.bool true)], args := [d] }
  | _ => none }
def fnExactReplyReadRow : OpenClaim := { program := "ythbmijnpmffmkaadoor", sum := "6dedbc223868fca82a0b0888b2a481f63bf823744bf4b5550baf579043020c2d", func := "loop.example/g00677/laws.FnExactReplyRead", spec := "fnExactReplyRead", named := ["unicode/utf8.first", "unicode/utf8.acceptRanges"], apart := false, laid := [("unicode/utf8.acceptRanges", laid_unicode_utf8_acceptRanges), ("unicode/utf8.first", laid_unicode_utf8_first)] }
def FnExactReplyReadSaid : Prop := fnExactReplyReadRow.holds Tryd.pinned (OpenSpec.ofChange fnExactReplyReadSpec)

/-- ITS FALSE NEIGHBOUR: 'it returns false'. Refute it at one input. -/
def fnExactReplyReadWrong : ChangeSpec := { name := "fnExactReplyRead", fn := fun _ => fun
  | [d] => { results := [.lit (.bool false)], args := [d] }
  | _ => none }
def FnExactReplyReadWrongFalsely : Prop := fnExactReplyReadRow.holds Tryd.pinned (OpenSpec.ofChange fnExactReplyReadWrong)

/- THE SECOND FORM. 'bulk': how many values and letters a reading holds, each counted each time it is reached (what is shared counts as often as it is met; a slice's spare places count too). A statement '..UptoSaid' is the law's where the arguments, and the package variables that the reading takes, are together of bulk at most 1048576: NARROWER than '..Said'. Prove '..Said' where nothing that the law and all that it calls make is longer than what came in: it says more and counts as full. Else prove '..UptoSaid'. A law counts once. -/
mutual
def uptoBulk {H : Type} : DataW H → Nat
  | .lit (.string bytes) => bytes.length + 1
  | .lit _ => 1
  | .nil => 1
  | .ptr d => uptoBulk d + 1
  | .slice elems spare => uptoBulkAll elems + uptoBulkAll spare + 1
  | .agg parts => uptoBulkAll parts + 1
  | .iface _ d => uptoBulk d + 1
  | .map entries => uptoBulkEntries entries + 1
  | .held _ => 1
def uptoBulkAll {H : Type} : List (DataW H) → Nat
  | [] => 0
  | d :: r => uptoBulk d + uptoBulkAll r
def uptoBulkEntries {H : Type} : List (Lit × DataW H) → Nat
  | [] => 0
  | x :: r => uptoBulkEntry x + uptoBulkEntries r
def uptoBulkEntry {H : Type} : Lit × DataW H → Nat
  | (.string bytes, d) => bytes.length + uptoBulk d + 1
  | (_, d) => uptoBulk d + 1
 end
def uptoSmall : (H : Type) → List (DataW H) → Bool := fun _ ds => decide (uptoBulkAll ds ≤ 1048576)
def OpenSpec.upto (s : _root_.Go.ChangeSpec) : _root_.Go.OpenSpec := { _root_.Go.OpenSpec.ofChange s with cond := some uptoSmall }

/-- 'laws.FnExactEditBack', WHERE WHAT IT READS IS OF BULK AT MOST 1048576: true; the input reads as it did. -/
def fnExactEditBackUptoRow : OpenClaim := { program := "ythbmijnpmffmkaadoor", sum := "6dedbc223868fca82a0b0888b2a481f63bf823744bf4b5550baf579043020c2d", func := "loop.example/g00677/laws.FnExactEditBack", spec := "fnExactEditBack", named := ["unicode/utf8.first", "unicode/utf8.acceptRanges"], apart := false, laid := [("unicode/utf8.acceptRanges", laid_unicode_utf8_acceptRanges), ("unicode/utf8.first", laid_unicode_utf8_first)], narrowed := true }
def FnExactEditBackUptoSaid : Prop := fnExactEditBackUptoRow.holds Tryd.pinned (OpenSpec.upto fnExactEditBackSpec)

/-- 'laws.FnExactRopeFind', WHERE WHAT IT READS IS OF BULK AT MOST 1048576: true; the input reads as it did. -/
def fnExactRopeFindUptoRow : OpenClaim := { program := "ythbmijnpmffmkaadoor", sum := "6dedbc223868fca82a0b0888b2a481f63bf823744bf4b5550baf579043020c2d", func := "loop.example/g00677/laws.FnExactRopeFind", spec := "fnExactRopeFind", inPlace := ["internal/bytealg.IndexByte", "internal/bytealg.Index"], named := ["unicode/utf8.first", "unicode/utf8.acceptRanges", "internal/bytealg.MaxLen"], apart := false, laid := [("unicode/utf8.acceptRanges", laid_unicode_utf8_acceptRanges), ("unicode/utf8.first", laid_unicode_utf8_first)], narrowed := true }
def FnExactRopeFindUptoSaid : Prop := fnExactRopeFindUptoRow.holds Tryd.pinned (OpenSpec.upto fnExactRopeFindSpec)

/-- 'laws.FnExactReqOk', WHERE WHAT IT READS IS OF BULK AT MOST 1048576: true; the input reads as it did. -/
def fnExactReqOkUptoRow : OpenClaim := { program := "ythbmijnpmffmkaadoor", sum := "6dedbc223868fca82a0b0888b2a481f63bf823744bf4b5550baf579043020c2d", func := "loop.example/g00677/laws.FnExactReqOk", spec := "fnExactReqOk", named := ["unicode/utf8.first", "unicode/utf8.acceptRanges"], apart := false, laid := [("unicode/utf8.acceptRanges", laid_unicode_utf8_acceptRanges), ("unicode/utf8.first", laid_unicode_utf8_first)], narrowed := true }
def FnExactReqOkUptoSaid : Prop := fnExactReqOkUptoRow.holds Tryd.pinned (OpenSpec.upto fnExactReqOkSpec)

/-- 'laws.FnExactReplyRead', WHERE WHAT IT READS IS OF BULK AT MOST 1048576: true; the input reads as it did. -/
def fnExactReplyReadUptoRow : OpenClaim := { program := "ythbmijnpmffmkaadoor", sum := "6dedbc223868fca82a0b0888b2a481f63bf823744bf4b5550baf579043020c2d", func := "loop.example/g00677/laws.FnExactReplyRead", spec := "fnExactReplyRead", named := ["unicode/utf8.first", "unicode/utf8.acceptRanges"], apart := false, laid := [("unicode/utf8.acceptRanges", laid_unicode_utf8_acceptRanges), ("unicode/utf8.first", laid_unicode_utf8_first)], narrowed := true }
def FnExactReplyReadUptoSaid : Prop := fnExactReplyReadUptoRow.holds Tryd.pinned (OpenSpec.upto fnExactReplyReadSpec)

end Rows
end Go.Proofs.YthbmijnpmffmkaaDoor
