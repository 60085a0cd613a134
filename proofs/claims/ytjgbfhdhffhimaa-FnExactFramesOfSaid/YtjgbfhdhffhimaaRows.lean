/-
  No cell of these rows narrows 'for every input' (looked for: loops, veiled, ifaces, maps, wideKeys, modest, calm, conditions, laid).
  DERIVED. THE GIVEN ROWS OF THIS SEAT. 3 by the template 'for every input the law returns true; each argument reads behind the call as it read before'; 0 by the template 'total and deterministic' (their statements: YtjgbfhdhffhimaaTotals.lean).
  GIVEN WITH THE SEED: the statements are not yours to turn. If you find one false, say at which input.
  Laid BY PROGRAM, IN A SANDBOX (cutbox-rows.mjs): the forced cells as the released guide's own fill.sh prints them over the translation 42362ff96f3753ec… (all of the seat's roots in one cut). By AI agents, Wed Nov 11 2026. No macro, syntax, notation, axiom, sorry.
-/
import Derived.Test.YtjgbfhdhffhimaaChecked
import GoSem.Claim
import GoSem.ClaimJoined
import GoSem.ClaimMapViews
import Derived.JoinedTies
import Derived.KernelRfl
namespace Go.Proofs.Ytjgbfhdhffhimaa
/- THE CELL 'sum', in the pinned program and in every row, IS THE sha256 OF THE DUMP (.gsa) THAT YtjgbfhdhffhimaaProg.lean LOADS. Nothing in Lean hashes anything: it is a label: what it is worth is what the hold of that sum in a sandbox is worth. -/
noncomputable def Try.pinned : Pinned := { name := "ytjgbfhdhffhimaa", sum := "42362ff96f3753ec3d8852727cbd9e7a717b9d6ba42d6b47b18e9b7a5a3edb64", checked := Try.checked }
namespace Rows
def none {H : Type} : Left H := { results := [], args := [] }

/-- 'laws.FnExactFramesCut': WHATEVER THE INPUT: true; the input reads as it did. -/
def fnExactFramesCutSpec : ChangeSpec := { name := "fnExactFramesCut", fn := fun _ => fun
  | [d] => { results := [.lit (.bool true)], args := [d] }
  | _ => none }
def fnExactFramesCutRow : OpenClaim := { program := "ytjgbfhdhffhimaa", sum := "42362ff96f3753ec3d8852727cbd9e7a717b9d6ba42d6b47b18e9b7a5a3edb64", func := "loop.example/g00677/laws.FnExactFramesCut", spec := "fnExactFramesCut", apart := false }
def FnExactFramesCutSaid : Prop := fnExactFramesCutRow.holds Try.pinned (OpenSpec.ofChange fnExactFramesCutSpec)

/-- ITS FALSE NEIGHBOUR: 'it returns false'. Refute it at one input. -/
def fnExactFramesCutWrong : ChangeSpec := { name := "fnExactFramesCut", fn := fun _ => fun
  | [d] => { results := [.lit (.bool false)], args := [d] }
  | _ => none }
def FnExactFramesCutWrongFalsely : Prop := fnExactFramesCutRow.holds Try.pinned (OpenSpec.ofChange fnExactFramesCutWrong)

/-- 'laws.FnExactStackOk': WHATEVER THE INPUT: true; the input reads as it did. -/
def fnExactStackOkSpec : ChangeSpec := { name := "fnExactStackOk", fn := fun _ => fun
  | [d] => { results := [.lit (.bool true)], args := [d] }
  | _ => none }
def fnExactStackOkRow : OpenClaim := { program := "ytjgbfhdhffhimaa", sum := "42362ff96f3753ec3d8852727cbd9e7a717b9d6ba42d6b47b18e9b7a5a3edb64", func := "loop.example/g00677/laws.FnExactStackOk", spec := "fnExactStackOk", unfollowed := true, recurses := true, apart := false }
def FnExactStackOkSaid : Prop := fnExactStackOkRow.holds Try.pinned (OpenSpec.ofChange fnExactStackOkSpec)

/-- ITS FALSE NEIGHBOUR: 'it returns false'. Refute it at one input. -/
def fnExactStackOkWrong : ChangeSpec := { name := "fnExactStackOk", fn := fun _ => fun
  | [d] => { results := [.lit (.bool false)], args := [d] }
  | _ => none }
def FnExactStackOkWrongFalsely : Prop := fnExactStackOkRow.holds Try.pinned (OpenSpec.ofChange fnExactStackOkWrong)

/-- 'laws.FnExactFramesOf': WHATEVER THE INPUT: true; the input reads as it did. -/
def fnExactFramesOfSpec : ChangeSpec := { name := "fnExactFramesOf", fn := fun _ => fun
  | [d] => { results := [.lit (.bool true)], args := [d] }
  | _ => none }
def fnExactFramesOfRow : OpenClaim := { program := "ytjgbfhdhffhimaa", sum := "42362ff96f3753ec3d8852727cbd9e7a717b9d6ba42d6b47b18e9b7a5a3edb64", func := "loop.example/g00677/laws.FnExactFramesOf", spec := "fnExactFramesOf", apart := false }
def FnExactFramesOfSaid : Prop := fnExactFramesOfRow.holds Try.pinned (OpenSpec.ofChange fnExactFramesOfSpec)

/-- ITS FALSE NEIGHBOUR: 'it returns false'. Refute it at one input. -/
def fnExactFramesOfWrong : ChangeSpec := { name := "fnExactFramesOf", fn := fun _ => fun
  | [d] => { results := [.lit (.bool false)], args := [d] }
  | _ => none }
def FnExactFramesOfWrongFalsely : Prop := fnExactFramesOfRow.holds Try.pinned (OpenSpec.ofChange fnExactFramesOfWrong)

/- THE SECOND FORM. 'bulk': how many values and letters a reading holds, each counted each time it is reached (what is shared counts as often as it is met; a slice's spare places count too). A statement '..UptoSaid' is the law's where the arguments, and the package variables that the reading takes, are together of bulk at most 1048576: NARROWER than '..Said'. Prove '..Said' where nothing that the law and all that it calls make is longer than what came in: it says more and counts as full. Else prove '..UptoSaid'. A law counts once. -/
mutual
def uptoBulk {H : Type} : DataW H → Nat
  | .lit (.string bytes) => bytes.length + 1
  | .lit _ => 1
  | .nil => 1
  | .ptr d => uptoBulk d + 1
  | .slice elems spare => uptoBulkAll elems + uptoBulkAll spare + 1
  | .agg parts => uptoBulkAll parts + 1
  | .iface _ d => uptoBulk d + 1
  | .map entries => uptoBulkEntries entries + 1
  | .held _ => 1
def uptoBulkAll {H : Type} : List (DataW H) → Nat
  | [] => 0
  | d :: r => uptoBulk d + uptoBulkAll r
def uptoBulkEntries {H : Type} : List (Lit × DataW H) → Nat
  | [] => 0
  | x :: r => uptoBulkEntry x + uptoBulkEntries r
def uptoBulkEntry {H : Type} : Lit × DataW H → Nat
  | (.string bytes, d) => bytes.length + uptoBulk d + 1
  | (_, d) => uptoBulk d + 1
 end
def uptoSmall : (H : Type) → List (DataW H) → Bool := fun _ ds => decide (uptoBulkAll ds ≤ 1048576)
def OpenSpec.upto (s : _root_.Go.ChangeSpec) : _root_.Go.OpenSpec := { _root_.Go.OpenSpec.ofChange s with cond := some uptoSmall }

/-- 'laws.FnExactFramesCut', WHERE WHAT IT READS IS OF BULK AT MOST 1048576: true; the input reads as it did. -/
def fnExactFramesCutUptoRow : OpenClaim := { program := "ytjgbfhdhffhimaa", sum := "42362ff96f3753ec3d8852727cbd9e7a717b9d6ba42d6b47b18e9b7a5a3edb64", func := "loop.example/g00677/laws.FnExactFramesCut", spec := "fnExactFramesCut", apart := false, narrowed := true }
def FnExactFramesCutUptoSaid : Prop := fnExactFramesCutUptoRow.holds Try.pinned (OpenSpec.upto fnExactFramesCutSpec)

/-- 'laws.FnExactStackOk', WHERE WHAT IT READS IS OF BULK AT MOST 1048576: true; the input reads as it did. -/
def fnExactStackOkUptoRow : OpenClaim := { program := "ytjgbfhdhffhimaa", sum := "42362ff96f3753ec3d8852727cbd9e7a717b9d6ba42d6b47b18e9b7a5a3edb64", func := "loop.example/g00677/laws.FnExactStackOk", spec := "fnExactStackOk", unfollowed := true, recurses := true, apart := false, narrowed := true }
def FnExactStackOkUptoSaid : Prop := fnExactStackOkUptoRow.holds Try.pinned (OpenSpec.upto fnExactStackOkSpec)

/-- 'laws.FnExactFramesOf', WHERE WHAT IT READS IS OF BULK AT MOST 1048576: true; the input reads as it did. -/
def fnExactFramesOfUptoRow : OpenClaim := { program := "ytjgbfhdhffhimaa", sum := "42362ff96f3753ec3d8852727cbd9e7a717b9d6ba42d6b47b18e9b7a5a3edb64", func := "loop.example/g00677/laws.FnExactFramesOf", spec := "fnExactFramesOf", apart := false, narrowed := true }
def FnExactFramesOfUptoSaid : Prop := fnExactFramesOfUptoRow.holds Try.pinned (OpenSpec.upto fnExactFramesOfSpec)

end Rows
end Go.Proofs.Ytjgbfhdhffhimaa
