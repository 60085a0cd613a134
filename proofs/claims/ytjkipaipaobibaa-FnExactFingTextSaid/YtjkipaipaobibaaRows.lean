/-
  No cell of these rows narrows 'for every input' (looked for: loops, veiled, ifaces, maps, wideKeys, modest, calm, conditions, laid).
  DERIVED. THE GIVEN ROWS OF THIS SEAT. 5 by the template 'for every input the law returns true; each argument reads behind the call as it read before'; 0 by the template 'total and deterministic' (their statements: YtjkipaipaobibaaTotals.lean).
  GIVEN WITH THE SEED: the statements are not yours to turn. If you find one false, say at which input.
  Laid BY PROGRAM, IN A SANDBOX (cutbox-rows.mjs): the forced cells as the released guide's own fill.sh prints them over the translation 25caf971ee263ce6… (all of the seat's roots in one cut). By AI agents, Wed Nov 11 2026. No macro, syntax, notation, axiom, sorry.
-/
import Derived.Test.YtjkipaipaobibaaChecked
import GoSem.Claim
import GoSem.ClaimJoined
import GoSem.ClaimMapViews
import Derived.JoinedTies
import Derived.KernelRfl
namespace Go.Proofs.Ytjkipaipaobibaa
/- THE CELL 'sum', in the pinned program and in every row, IS THE sha256 OF THE DUMP (.gsa) THAT YtjkipaipaobibaaProg.lean LOADS. Nothing in Lean hashes anything: it is a label: what it is worth is what the hold of that sum in a sandbox is worth. -/
noncomputable def Try.pinned : Pinned := { name := "ytjkipaipaobibaa", sum := "25caf971ee263ce60d6a45e7c3a9849e837f0f3aa8391845265a8256171f584a", checked := Try.checked }
namespace Rows
def none {H : Type} : Left H := { results := [], args := [] }

/-- 'laws.FnExactFingText': WHATEVER THE INPUT: true; the input reads as it did. -/
def fnExactFingTextSpec : ChangeSpec := { name := "fnExactFingText", fn := fun _ => fun
  | [d] => { results := [.lit (.bool true)], args := [d] }
  | _ => none }
def fnExactFingTextRow : OpenClaim := { program := "ytjkipaipaobibaa", sum := "25caf971ee263ce60d6a45e7c3a9849e837f0f3aa8391845265a8256171f584a", func := "loop.example/g00677/laws.FnExactFingText", spec := "fnExactFingText", inPlace := ["internal/bytealg.CountString", "internal/bytealg.IndexByteString", "internal/bytealg.IndexString", "internal/abi.NoEscape", "internal/bytealg.MakeNoZero"], recurses := true, named := ["internal/bytealg.MaxLen"], apart := false }
def FnExactFingTextSaid : Prop := fnExactFingTextRow.holds Try.pinned (OpenSpec.ofChange fnExactFingTextSpec)

/-- ITS FALSE NEIGHBOUR: 'it returns false'. Refute it at one input. -/
def fnExactFingTextWrong : ChangeSpec := { name := "fnExactFingText", fn := fun _ => fun
  | [d] => { results := [.lit (.bool false)], args := [d] }
  | _ => none }
def FnExactFingTextWrongFalsely : Prop := fnExactFingTextRow.holds Try.pinned (OpenSpec.ofChange fnExactFingTextWrong)

/-- 'laws.FnExactShapeOk': WHATEVER THE INPUT: true; the input reads as it did. -/
def fnExactShapeOkSpec : ChangeSpec := { name := "fnExactShapeOk", fn := fun _ => fun
  | [d1, d2] => { results := [.lit (.bool true)], args := [d1, d2] }
  | _ => none }
def fnExactShapeOkRow : OpenClaim := { program := "ytjkipaipaobibaa", sum := "25caf971ee263ce60d6a45e7c3a9849e837f0f3aa8391845265a8256171f584a", func := "loop.example/g00677/laws.FnExactShapeOk", spec := "fnExactShapeOk", inPlace := ["internal/bytealg.CountString", "internal/bytealg.IndexByteString", "internal/bytealg.IndexString"], recurses := true, named := ["internal/bytealg.MaxLen"], apart := false }
def FnExactShapeOkSaid : Prop := fnExactShapeOkRow.holds Try.pinned (OpenSpec.ofChange fnExactShapeOkSpec)

/-- ITS FALSE NEIGHBOUR: 'it returns false'. Refute it at one input. -/
def fnExactShapeOkWrong : ChangeSpec := { name := "fnExactShapeOk", fn := fun _ => fun
  | [d1, d2] => { results := [.lit (.bool false)], args := [d1, d2] }
  | _ => none }
def FnExactShapeOkWrongFalsely : Prop := fnExactShapeOkRow.holds Try.pinned (OpenSpec.ofChange fnExactShapeOkWrong)

/-- 'laws.FnExactFingNew': WHATEVER THE INPUT: true; the input reads as it did. -/
def fnExactFingNewSpec : ChangeSpec := { name := "fnExactFingNew", fn := fun _ => fun
  | [d] => { results := [.lit (.bool true)], args := [d] }
  | _ => none }
def fnExactFingNewRow : OpenClaim := { program := "ytjkipaipaobibaa", sum := "25caf971ee263ce60d6a45e7c3a9849e837f0f3aa8391845265a8256171f584a", func := "loop.example/g00677/laws.FnExactFingNew", spec := "fnExactFingNew", inPlace := ["internal/abi.NoEscape", "internal/bytealg.MakeNoZero"], recurses := true, apart := false }
def FnExactFingNewSaid : Prop := fnExactFingNewRow.holds Try.pinned (OpenSpec.ofChange fnExactFingNewSpec)

/-- ITS FALSE NEIGHBOUR: 'it returns false'. Refute it at one input. -/
def fnExactFingNewWrong : ChangeSpec := { name := "fnExactFingNew", fn := fun _ => fun
  | [d] => { results := [.lit (.bool false)], args := [d] }
  | _ => none }
def FnExactFingNewWrongFalsely : Prop := fnExactFingNewRow.holds Try.pinned (OpenSpec.ofChange fnExactFingNewWrong)

/-- 'laws.FnExactFingOk': WHATEVER THE INPUT: true; the input reads as it did. -/
def fnExactFingOkSpec : ChangeSpec := { name := "fnExactFingOk", fn := fun _ => fun
  | [d] => { results := [.lit (.bool true)], args := [d] }
  | _ => none }
def fnExactFingOkRow : OpenClaim := { program := "ytjkipaipaobibaa", sum := "25caf971ee263ce60d6a45e7c3a9849e837f0f3aa8391845265a8256171f584a", func := "loop.example/g00677/laws.FnExactFingOk", spec := "fnExactFingOk", inPlace := ["internal/bytealg.CountString", "internal/bytealg.IndexByteString", "internal/bytealg.IndexString"], recurses := true, named := ["internal/bytealg.MaxLen"], apart := false }
def FnExactFingOkSaid : Prop := fnExactFingOkRow.holds Try.pinned (OpenSpec.ofChange fnExactFingOkSpec)

/-- ITS FALSE NEIGHBOUR: 'it returns false'. Refute it at one input. -/
def fnExactFingOkWrong : ChangeSpec := { name := "fnExactFingOk", fn := fun _ => fun
  | [d] => { results := [.lit (.bool false)], args := [d] }
  | _ => none }
def FnExactFingOkWrongFalsely : Prop := fnExactFingOkRow.holds Try.pinned (OpenSpec.ofChange fnExactFingOkWrong)

/-- 'laws.FnExactFingLeaves': WHATEVER THE INPUT: true; the input reads as it did. -/
def fnExactFingLeavesSpec : ChangeSpec := { name := "fnExactFingLeaves", fn := fun _ => fun
  | [d] => { results := [.lit (.bool true)], args := [d] }
  | _ => none }
def fnExactFingLeavesRow : OpenClaim := { program := "ytjkipaipaobibaa", sum := "25caf971ee263ce60d6a45e7c3a9849e837f0f3aa8391845265a8256171f584a", func := "loop.example/g00677/laws.FnExactFingLeaves", spec := "fnExactFingLeaves", inPlace := ["internal/bytealg.CountString", "internal/bytealg.IndexByteString", "internal/bytealg.IndexString"], recurses := true, named := ["internal/bytealg.MaxLen"], apart := false }
def FnExactFingLeavesSaid : Prop := fnExactFingLeavesRow.holds Try.pinned (OpenSpec.ofChange fnExactFingLeavesSpec)

/-- ITS FALSE NEIGHBOUR: 'it returns false'. Refute it at one input. -/
def fnExactFingLeavesWrong : ChangeSpec := { name := "fnExactFingLeaves", fn := fun _ => fun
  | [d] => { results := [.lit (.bool false)], args := [d] }
  | _ => none }
def FnExactFingLeavesWrongFalsely : Prop := fnExactFingLeavesRow.holds Try.pinned (OpenSpec.ofChange fnExactFingLeavesWrong)

/- THE SECOND FORM. 'bulk': how many values and letters a reading holds, each counted each time it is reached (what is shared counts as often as it is met; a slice's spare places count too). A statement '..UptoSaid' is the law's where the arguments, and the package variables that the reading takes, are together of bulk at most 1048576: NARROWER than '..Said'. Prove '..Said' where nothing that the law and all that it calls make is longer than what came in: it says more and counts as full. Else prove '..UptoSaid'. A law counts once. -/
mutual
def uptoBulk {H : Type} : DataW H → Nat
  | .lit (.string bytes) => bytes.length + 1
  | .lit _ => 1
  | .nil => 1
  | .ptr d => uptoBulk d + 1
  | .slice elems spare => uptoBulkAll elems + uptoBulkAll spare + 1
  | .agg parts => uptoBulkAll parts + 1
  | .iface _ d => uptoBulk d + 1
  | .map entries => uptoBulkEntries entries + 1
  | .held _ => 1
def uptoBulkAll {H : Type} : List (DataW H) → Nat
  | [] => 0
  | d :: r => uptoBulk d + uptoBulkAll r
def uptoBulkEntries {H : Type} : List (Lit × DataW H) → Nat
  | [] => 0
  | x :: r => uptoBulkEntry x + uptoBulkEntries r
def uptoBulkEntry {H : Type} : Lit × DataW H → Nat
  | (.string bytes, d) => bytes.length + uptoBulk d + 1
  | (_, d) => uptoBulk d + 1
 end
def uptoSmall : (H : Type) → List (DataW H) → Bool := fun _ ds => decide (uptoBulkAll ds ≤ 1048576)
def OpenSpec.upto (s : _root_.Go.ChangeSpec) : _root_.Go.OpenSpec := { _root_.Go.OpenSpec.ofChange s with cond := some uptoSmall }

/-- 'laws.FnExactFingText', WHERE WHAT IT READS IS OF BULK AT MOST 1048576: true; the input reads as it did. -/
def fnExactFingTextUptoRow : OpenClaim := { program := "ytjkipaipaobibaa", sum := "25caf971ee263ce60d6a45e7c3a9849e837f0f3aa8391845265a8256171f584a", func := "loop.example/g00677/laws.FnExactFingText", spec := "fnExactFingText", inPlace := ["internal/bytealg.CountString", "internal/bytealg.IndexByteString", "internal/bytealg.IndexString", "internal/abi.NoEscape", "internal/bytealg.MakeNoZero"], recurses := true, named := ["internal/bytealg.MaxLen"], apart := false, narrowed := true }
def FnExactFingTextUptoSaid : Prop := fnExactFingTextUptoRow.holds Try.pinned (OpenSpec.upto fnExactFingTextSpec)

/-- 'laws.FnExactShapeOk', WHERE WHAT IT READS IS OF BULK AT MOST 1048576: true; the input reads as it did. -/
def fnExactShapeOkUptoRow : OpenClaim := { program := "ytjkipaipaobibaa", sum := "25caf971ee263ce60d6a45e7c3a9849e837f0f3aa8391845265a8256171f584a", func := "loop.example/g00677/laws.FnExactShapeOk", spec := "fnExactShapeOk", inPlace := ["internal/bytealg.CountString", "internal/bytealg.IndexByteString", "internal/bytealg.IndexString"], recurses := true, named := ["internal/bytealg.MaxLen"], apart := false, narrowed := true }
def FnExactShapeOkUptoSaid : Prop := fnExactShapeOkUptoRow.holds Try.pinned (OpenSpec.upto fnExactShapeOkSpec)

/-- 'laws.FnExactFingNew', WHERE WHAT IT READS IS OF BULK AT MOST 1048576: true; the input reads as it did. -/
def fnExactFingNewUptoRow : OpenClaim := { program := "ytjkipaipaobibaa", sum := "25caf971ee263ce60d6a45e7c3a9849e837f0f3aa8391845265a8256171f584a", func := "loop.example/g00677/laws.FnExactFingNew", spec := "fnExactFingNew", inPlace := ["internal/abi.NoEscape", "internal/bytealg.MakeNoZero"], recurses := true, apart := false, narrowed := true }
def FnExactFingNewUptoSaid : Prop := fnExactFingNewUptoRow.holds Try.pinned (OpenSpec.upto fnExactFingNewSpec)

/-- 'laws.FnExactFingOk', WHERE WHAT IT READS IS OF BULK AT MOST 1048576: true; the input reads as it did. -/
def fnExactFingOkUptoRow : OpenClaim := { program := "ytjkipaipaobibaa", sum := "25caf971ee263ce60d6a45e7c3a9849e837f0f3aa8391845265a8256171f584a", func := "loop.example/g00677/laws.FnExactFingOk", spec := "fnExactFingOk", inPlace := ["internal/bytealg.CountString", "internal/bytealg.IndexByteString", "internal/bytealg.IndexString"], recurses := true, named := ["internal/bytealg.MaxLen"], apart := false, narrowed := true }
def FnExactFingOkUptoSaid : Prop := fnExactFingOkUptoRow.holds Try.pinned (OpenSpec.upto fnExactFingOkSpec)

/-- 'laws.FnExactFingLeaves', WHERE WHAT IT READS IS OF BULK AT MOST 1048576: true; the input reads as it did. -/
def fnExactFingLeavesUptoRow : OpenClaim := { program := "ytjkipaipaobibaa", sum := "25caf971ee263ce60d6a45e7c3a9849e837f0f3aa8391845265a8256171f584a", func := "loop.example/g00677/laws.FnExactFingLeaves", spec := "fnExactFingLeaves", inPlace := ["internal/bytealg.CountString", "internal/bytealg.IndexByteString", "internal/bytealg.IndexString"], recurses := true, named := ["internal/bytealg.MaxLen"], apart := false, narrowed := true }
def FnExactFingLeavesUptoSaid : Prop := fnExactFingLeavesUptoRow.holds Try.pinned (OpenSpec.upto fnExactFingLeavesSpec)

end Rows
end Go.Proofs.Ytjkipaipaobibaa
