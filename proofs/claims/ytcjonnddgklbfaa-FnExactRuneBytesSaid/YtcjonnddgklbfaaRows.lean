/-
  No cell of these rows narrows 'for every input' (looked for: loops, veiled, ifaces, maps, wideKeys, modest, calm, conditions, laid).
  DERIVED. THE GIVEN ROWS OF THIS SEAT. 12 by the template 'for every input the law returns true; each argument reads behind the call as it read before'; 0 by the template 'total and deterministic' (their statements: YtcjonnddgklbfaaTotals.lean).
  GIVEN WITH THE SEED: the statements are not yours to turn. If you find one false, say at which input.
  Laid BY PROGRAM, IN A SANDBOX (cutbox-rows.mjs): the forced cells as the released guide's own fill.sh prints them over the translation 81bbea64a129ff17… (all of the seat's roots in one cut). By AI agents, Wed Nov 11 2026. No macro, syntax, notation, axiom, sorry.
-/
import Derived.Test.YtcjonnddgklbfaaChecked
import GoSem.Claim
import GoSem.ClaimJoined
import GoSem.ClaimMapViews
import Derived.JoinedTies
import Derived.KernelRfl
namespace Go.Proofs.Ytcjonnddgklbfaa
/- THE CELL 'sum', in the pinned program and in every row, IS THE sha256 OF THE DUMP (.gsa) THAT YtcjonnddgklbfaaProg.lean LOADS. Nothing in Lean hashes anything: it is a label: what it is worth is what the hold of that sum in a sandbox is worth. -/
noncomputable def Try.pinned : Pinned := { name := "ytcjonnddgklbfaa", sum := "81bbea64a129ff17679a363b71160419a6b1b044a693e74709e47c5b0d0206c8", checked := Try.checked }
namespace Rows
def none {H : Type} : Left H := { results := [], args := [] }

/-- 'laws.FnExactConstants': WHATEVER THE INPUT: true; the input reads as it did. -/
def fnExactConstantsSpec : ChangeSpec := { name := "fnExactConstants", fn := fun _ => fun
  | [] => { results := [.lit (.bool true)], args := [] }
  | _ => none }
def fnExactConstantsRow : OpenClaim := { program := "ytcjonnddgklbfaa", sum := "81bbea64a129ff17679a363b71160419a6b1b044a693e74709e47c5b0d0206c8", func := "loop.example/g00677/laws.FnExactConstants", spec := "fnExactConstants", apart := false }
def FnExactConstantsSaid : Prop := fnExactConstantsRow.holds Try.pinned (OpenSpec.ofChange fnExactConstantsSpec)

/-- ITS FALSE NEIGHBOUR: 'it returns false'. Refute it at one input. -/
def fnExactConstantsWrong : ChangeSpec := { name := "fnExactConstants", fn := fun _ => fun
  | [] => { results := [.lit (.bool false)], args := [] }
  | _ => none }
def FnExactConstantsWrongFalsely : Prop := fnExactConstantsRow.holds Try.pinned (OpenSpec.ofChange fnExactConstantsWrong)

/-- 'laws.FnExactMeasAdd': WHATEVER THE INPUT: true; the input reads as it did. -/
def fnExactMeasAddSpec : ChangeSpec := { name := "fnExactMeasAdd", fn := fun _ => fun
  | [d1, d2] => { results := [.lit (.bool true)], args := [d1, d2] }
  | _ => none }
def fnExactMeasAddRow : OpenClaim := { program := "ytcjonnddgklbfaa", sum := "81bbea64a129ff17679a363b71160419a6b1b044a693e74709e47c5b0d0206c8", func := "loop.example/g00677/laws.FnExactMeasAdd", spec := "fnExactMeasAdd", apart := false }
def FnExactMeasAddSaid : Prop := fnExactMeasAddRow.holds Try.pinned (OpenSpec.ofChange fnExactMeasAddSpec)

/-- ITS FALSE NEIGHBOUR: 'it returns false'. Refute it at one input. -/
def fnExactMeasAddWrong : ChangeSpec := { name := "fnExactMeasAdd", fn := fun _ => fun
  | [d1, d2] => { results := [.lit (.bool false)], args := [d1, d2] }
  | _ => none }
def FnExactMeasAddWrongFalsely : Prop := fnExactMeasAddRow.holds Try.pinned (OpenSpec.ofChange fnExactMeasAddWrong)

/-- 'laws.FnExactEditsApart': WHATEVER THE INPUT: true; the input reads as it did. -/
def fnExactEditsApartSpec : ChangeSpec := { name := "fnExactEditsApart", fn := fun _ => fun
  | [d1, d2] => { results := [.lit (.bool true)], args := [d1, d2] }
  | _ => none }
def fnExactEditsApartRow : OpenClaim := { program := "ytcjonnddgklbfaa", sum := "81bbea64a129ff17679a363b71160419a6b1b044a693e74709e47c5b0d0206c8", func := "loop.example/g00677/laws.FnExactEditsApart", spec := "fnExactEditsApart", apart := false }
def FnExactEditsApartSaid : Prop := fnExactEditsApartRow.holds Try.pinned (OpenSpec.ofChange fnExactEditsApartSpec)

/-- ITS FALSE NEIGHBOUR: 'it returns false'. Refute it at one input. -/
def fnExactEditsApartWrong : ChangeSpec := { name := "fnExactEditsApart", fn := fun _ => fun
  | [d1, d2] => { results := [.lit (.bool false)], args := [d1, d2] }
  | _ => none }
def FnExactEditsApartWrongFalsely : Prop := fnExactEditsApartRow.holds Try.pinned (OpenSpec.ofChange fnExactEditsApartWrong)

/-- 'laws.FnExactRuneBytes': WHATEVER THE INPUT: true; the input reads as it did. -/
def fnExactRuneBytesSpec : ChangeSpec := { name := "fnExactRuneBytes", fn := fun _ => fun
  | [d] => { results := [.lit (.bool true)], args := [d] }
  | _ => none }
def fnExactRuneBytesRow : OpenClaim := { program := "ytcjonnddgklbfaa", sum := "81bbea64a129ff17679a363b71160419a6b1b044a693e74709e47c5b0d0206c8", func := "loop.example/g00677/laws.FnExactRuneBytes", spec := "fnExactRuneBytes", apart := false }
def FnExactRuneBytesSaid : Prop := fnExactRuneBytesRow.holds Try.pinned (OpenSpec.ofChange fnExactRuneBytesSpec)

/-- ITS FALSE NEIGHBOUR: 'it returns false'. Refute it at one input. -/
def fnExactRuneBytesWrong : ChangeSpec := { name := "fnExactRuneBytes", fn := fun _ => fun
  | [d] => { results := [.lit (.bool false)], args := [d] }
  | _ => none }
def FnExactRuneBytesWrongFalsely : Prop := fnExactRuneBytesRow.holds Try.pinned (OpenSpec.ofChange fnExactRuneBytesWrong)

/-- 'laws.FnExactReqEdits': WHATEVER THE INPUT: true; the input reads as it did. -/
def fnExactReqEditsSpec : ChangeSpec := { name := "fnExactReqEdits", fn := fun _ => fun
  | [d] => { results := [.lit (.bool true)], args := [d] }
  | _ => none }
def fnExactReqEditsRow : OpenClaim := { program := "ytcjonnddgklbfaa", sum := "81bbea64a129ff17679a363b71160419a6b1b044a693e74709e47c5b0d0206c8", func := "loop.example/g00677/laws.FnExactReqEdits", spec := "fnExactReqEdits", apart := false }
def FnExactReqEditsSaid : Prop := fnExactReqEditsRow.holds Try.pinned (OpenSpec.ofChange fnExactReqEditsSpec)

/-- ITS FALSE NEIGHBOUR: 'it returns false'. Refute it at one input. -/
def fnExactReqEditsWrong : ChangeSpec := { name := "fnExactReqEdits", fn := fun _ => fun
  | [d] => { results := [.lit (.bool false)], args := [d] }
  | _ => none }
def FnExactReqEditsWrongFalsely : Prop := fnExactReqEditsRow.holds Try.pinned (OpenSpec.ofChange fnExactReqEditsWrong)

/-- 'laws.FnExactEditHits': WHATEVER THE INPUT: true; the input reads as it did. -/
def fnExactEditHitsSpec : ChangeSpec := { name := "fnExactEditHits", fn := fun _ => fun
  | [d1, d2, d3] => { results := [.lit (.bool true)], args := [d1, d2, d3] }
  | _ => none }
def fnExactEditHitsRow : OpenClaim := { program := "ytcjonnddgklbfaa", sum := "81bbea64a129ff17679a363b71160419a6b1b044a693e74709e47c5b0d0206c8", func := "loop.example/g00677/laws.FnExactEditHits", spec := "fnExactEditHits", apart := false }
def FnExactEditHitsSaid : Prop := fnExactEditHitsRow.holds Try.pinned (OpenSpec.ofChange fnExactEditHitsSpec)

/-- ITS FALSE NEIGHBOUR: 'it returns false'. Refute it at one input. -/
def fnExactEditHitsWrong : ChangeSpec := { name := "fnExactEditHits", fn := fun _ => fun
  | [d1, d2, d3] => { results := [.lit (.bool false)], args := [d1, d2, d3] }
  | _ => none }
def FnExactEditHitsWrongFalsely : Prop := fnExactEditHitsRow.holds Try.pinned (OpenSpec.ofChange fnExactEditHitsWrong)

/-- 'laws.FnExactPosMove': WHATEVER THE INPUT: true; the input reads as it did. -/
def fnExactPosMoveSpec : ChangeSpec := { name := "fnExactPosMove", fn := fun _ => fun
  | [d1, d2, d3] => { results := [.lit (.bool true)], args := [d1, d2, d3] }
  | _ => none }
def fnExactPosMoveRow : OpenClaim := { program := "ytcjonnddgklbfaa", sum := "81bbea64a129ff17679a363b71160419a6b1b044a693e74709e47c5b0d0206c8", func := "loop.example/g00677/laws.FnExactPosMove", spec := "fnExactPosMove", apart := false }
def FnExactPosMoveSaid : Prop := fnExactPosMoveRow.holds Try.pinned (OpenSpec.ofChange fnExactPosMoveSpec)

/-- ITS FALSE NEIGHBOUR: 'it returns false'. Refute it at one input. -/
def fnExactPosMoveWrong : ChangeSpec := { name := "fnExactPosMove", fn := fun _ => fun
  | [d1, d2, d3] => { results := [.lit (.bool false)], args := [d1, d2, d3] }
  | _ => none }
def FnExactPosMoveWrongFalsely : Prop := fnExactPosMoveRow.holds Try.pinned (OpenSpec.ofChange fnExactPosMoveWrong)

/-- 'laws.FnExactFramesCut': WHATEVER THE INPUT: true; the input reads as it did. -/
def fnExactFramesCutSpec : ChangeSpec := { name := "fnExactFramesCut", fn := fun _ => fun
  | [d] => { results := [.lit (.bool true)], args := [d] }
  | _ => none }
def fnExactFramesCutRow : OpenClaim := { program := "ytcjonnddgklbfaa", sum := "81bbea64a129ff17679a363b71160419a6b1b044a693e74709e47c5b0d0206c8", func := "loop.example/g00677/laws.FnExactFramesCut", spec := "fnExactFramesCut", apart := false }
def FnExactFramesCutSaid : Prop := fnExactFramesCutRow.holds Try.pinned (OpenSpec.ofChange fnExactFramesCutSpec)

/-- ITS FALSE NEIGHBOUR: 'it returns false'. Refute it at one input. -/
def fnExactFramesCutWrong : ChangeSpec := { name := "fnExactFramesCut", fn := fun _ => fun
  | [d] => { results := [.lit (.bool false)], args := [d] }
  | _ => none }
def FnExactFramesCutWrongFalsely : Prop := fnExactFramesCutRow.holds Try.pinned (OpenSpec.ofChange fnExactFramesCutWrong)

/-- 'laws.FnExactSpanMove': WHATEVER THE INPUT: true; the input reads as it did. -/
def fnExactSpanMoveSpec : ChangeSpec := { name := "fnExactSpanMove", fn := fun _ => fun
  | [d1, d2, d3] => { results := [.lit (.bool true)], args := [d1, d2, d3] }
  | _ => none }
def fnExactSpanMoveRow : OpenClaim := { program := "ytcjonnddgklbfaa", sum := "81bbea64a129ff17679a363b71160419a6b1b044a693e74709e47c5b0d0206c8", func := "loop.example/g00677/laws.FnExactSpanMove", spec := "fnExactSpanMove", apart := false }
def FnExactSpanMoveSaid : Prop := fnExactSpanMoveRow.holds Try.pinned (OpenSpec.ofChange fnExactSpanMoveSpec)

/-- ITS FALSE NEIGHBOUR: 'it returns false'. Refute it at one input. -/
def fnExactSpanMoveWrong : ChangeSpec := { name := "fnExactSpanMove", fn := fun _ => fun
  | [d1, d2, d3] => { results := [.lit (.bool false)], args := [d1, d2, d3] }
  | _ => none }
def FnExactSpanMoveWrongFalsely : Prop := fnExactSpanMoveRow.holds Try.pinned (OpenSpec.ofChange fnExactSpanMoveWrong)

/-- 'laws.FnExactSelMove': WHATEVER THE INPUT: true; the input reads as it did. -/
def fnExactSelMoveSpec : ChangeSpec := { name := "fnExactSelMove", fn := fun _ => fun
  | [d1, d2, d3] => { results := [.lit (.bool true)], args := [d1, d2, d3] }
  | _ => none }
def fnExactSelMoveRow : OpenClaim := { program := "ytcjonnddgklbfaa", sum := "81bbea64a129ff17679a363b71160419a6b1b044a693e74709e47c5b0d0206c8", func := "loop.example/g00677/laws.FnExactSelMove", spec := "fnExactSelMove", apart := false }
def FnExactSelMoveSaid : Prop := fnExactSelMoveRow.holds Try.pinned (OpenSpec.ofChange fnExactSelMoveSpec)

/-- ITS FALSE NEIGHBOUR: 'it returns false'. Refute it at one input. -/
def fnExactSelMoveWrong : ChangeSpec := { name := "fnExactSelMove", fn := fun _ => fun
  | [d1, d2, d3] => { results := [.lit (.bool false)], args := [d1, d2, d3] }
  | _ => none }
def FnExactSelMoveWrongFalsely : Prop := fnExactSelMoveRow.holds Try.pinned (OpenSpec.ofChange fnExactSelMoveWrong)

/-- 'laws.FnExactLeasesOk': WHATEVER THE INPUT: true; the input reads as it did. -/
def fnExactLeasesOkSpec : ChangeSpec := { name := "fnExactLeasesOk", fn := fun _ => fun
  | [d] => { results := [.lit (.bool true)], args := [d] }
  | _ => none }
def fnExactLeasesOkRow : OpenClaim := { program := "ytcjonnddgklbfaa", sum := "81bbea64a129ff17679a363b71160419a6b1b044a693e74709e47c5b0d0206c8", func := "loop.example/g00677/laws.FnExactLeasesOk", spec := "fnExactLeasesOk", apart := false }
def FnExactLeasesOkSaid : Prop := fnExactLeasesOkRow.holds Try.pinned (OpenSpec.ofChange fnExactLeasesOkSpec)

/-- ITS FALSE NEIGHBOUR: 'it returns false'. Refute it at one input. -/
def fnExactLeasesOkWrong : ChangeSpec := { name := "fnExactLeasesOk", fn := fun _ => fun
  | [d] => { results := [.lit (.bool false)], args := [d] }
  | _ => none }
def FnExactLeasesOkWrongFalsely : Prop := fnExactLeasesOkRow.holds Try.pinned (OpenSpec.ofChange fnExactLeasesOkWrong)

/-- 'laws.FnExactStackOk': WHATEVER THE INPUT: true; the input reads as it did. -/
def fnExactStackOkSpec : ChangeSpec := { name := "fnExactStackOk", fn := fun _ => fun
  | [d] => { results := [.lit (.bool true)], args := [d] }
  | _ => none }
def fnExactStackOkRow : OpenClaim := { program := "ytcjonnddgklbfaa", sum := "81bbea64a129ff17679a363b71160419a6b1b044a693e74709e47c5b0d0206c8", func := "loop.example/g00677/laws.FnExactStackOk", spec := "fnExactStackOk", unfollowed := true, recurses := true, apart := false }
def FnExactStackOkSaid : Prop := fnExactStackOkRow.holds Try.pinned (OpenSpec.ofChange fnExactStackOkSpec)

/-- ITS FALSE NEIGHBOUR: 'it returns false'. Refute it at one input. -/
def fnExactStackOkWrong : ChangeSpec := { name := "fnExactStackOk", fn := fun _ => fun
  | [d] => { results := [.lit (.bool false)], args := [d] }
  | _ => none }
def FnExactStackOkWrongFalsely : Prop := fnExactStackOkRow.holds Try.pinned (OpenSpec.ofChange fnExactStackOkWrong)

/- THE SECOND FORM. 'bulk': how many values and letters a reading holds, each counted each time it is reached (what is shared counts as often as it is met; a slice's spare places count too). A statement '..UptoSaid' is the law's where the arguments, and the package variables that the reading takes, are together of bulk at most 1048576: NARROWER than '..Said'. Prove '..Said' where nothing that the law and all that it calls make is longer than what came in: it says more and counts as full. Else prove '..UptoSaid'. A law counts once. -/
mutual
def uptoBulk {H : Type} : DataW H → Nat
  | .lit (.string bytes) => bytes.length + 1
  | .lit _ => 1
  | .nil => 1
  | .ptr d => uptoBulk d + 1
  | .slice elems spare => uptoBulkAll elems + uptoBulkAll spare + 1
  | .agg parts => uptoBulkAll parts + 1
  | .iface _ d => uptoBulk d + 1
  | .map entries => uptoBulkEntries entries + 1
  | .held _ => 1
def uptoBulkAll {H : Type} : List (DataW H) → Nat
  | [] => 0
  | d :: r => uptoBulk d + uptoBulkAll r
def uptoBulkEntries {H : Type} : List (Lit × DataW H) → Nat
  | [] => 0
  | x :: r => uptoBulkEntry x + uptoBulkEntries r
def uptoBulkEntry {H : Type} : Lit × DataW H → Nat
  | (.string bytes, d) => bytes.length + uptoBulk d + 1
  | (_, d) => uptoBulk d + 1
 end
def uptoSmall : (H : Type) → List (DataW H) → Bool := fun _ ds => decide (uptoBulkAll ds ≤ 1048576)
def OpenSpec.upto (s : _root_.Go.ChangeSpec) : _root_.Go.OpenSpec := { _root_.Go.OpenSpec.ofChange s with cond := some uptoSmall }

/-- 'laws.FnExactConstants', WHERE WHAT IT READS IS OF BULK AT MOST 1048576: true; the input reads as it did. -/
def fnExactConstantsUptoRow : OpenClaim := { program := "ytcjonnddgklbfaa", sum := "81bbea64a129ff17679a363b71160419a6b1b044a693e74709e47c5b0d0206c8", func := "loop.example/g00677/laws.FnExactConstants", spec := "fnExactConstants", apart := false, narrowed := true }
def FnExactConstantsUptoSaid : Prop := fnExactConstantsUptoRow.holds Try.pinned (OpenSpec.upto fnExactConstantsSpec)

/-- 'laws.FnExactMeasAdd', WHERE WHAT IT READS IS OF BULK AT MOST 1048576: true; the input reads as it did. -/
def fnExactMeasAddUptoRow : OpenClaim := { program := "ytcjonnddgklbfaa", sum := "81bbea64a129ff17679a363b71160419a6b1b044a693e74709e47c5b0d0206c8", func := "loop.example/g00677/laws.FnExactMeasAdd", spec := "fnExactMeasAdd", apart := false, narrowed := true }
def FnExactMeasAddUptoSaid : Prop := fnExactMeasAddUptoRow.holds Try.pinned (OpenSpec.upto fnExactMeasAddSpec)

/-- 'laws.FnExactEditsApart', WHERE WHAT IT READS IS OF BULK AT MOST 1048576: true; the input reads as it did. -/
def fnExactEditsApartUptoRow : OpenClaim := { program := "ytcjonnddgklbfaa", sum := "81bbea64a129ff17679a363b71160419a6b1b044a693e74709e47c5b0d0206c8", func := "loop.example/g00677/laws.FnExactEditsApart", spec := "fnExactEditsApart", apart := false, narrowed := true }
def FnExactEditsApartUptoSaid : Prop := fnExactEditsApartUptoRow.holds Try.pinned (OpenSpec.upto fnExactEditsApartSpec)

/-- 'laws.FnExactRuneBytes', WHERE WHAT IT READS IS OF BULK AT MOST 1048576: true; the input reads as it did. -/
def fnExactRuneBytesUptoRow : OpenClaim := { program := "ytcjonnddgklbfaa", sum := "81bbea64a129ff17679a363b71160419a6b1b044a693e74709e47c5b0d0206c8", func := "loop.example/g00677/laws.FnExactRuneBytes", spec := "fnExactRuneBytes", apart := false, narrowed := true }
def FnExactRuneBytesUptoSaid : Prop := fnExactRuneBytesUptoRow.holds Try.pinned (OpenSpec.upto fnExactRuneBytesSpec)

/-- 'laws.FnExactReqEdits', WHERE WHAT IT READS IS OF BULK AT MOST 1048576: true; the input reads as it did. -/
def fnExactReqEditsUptoRow : OpenClaim := { program := "ytcjonnddgklbfaa", sum := "81bbea64a129ff17679a363b71160419a6b1b044a693e74709e47c5b0d0206c8", func := "loop.example/g00677/laws.FnExactReqEdits", spec := "fnExactReqEdits", apart := false, narrowed := true }
def FnExactReqEditsUptoSaid : Prop := fnExactReqEditsUptoRow.holds Try.pinned (OpenSpec.upto fnExactReqEditsSpec)

/-- 'laws.FnExactEditHits', WHERE WHAT IT READS IS OF BULK AT MOST 1048576: true; the input reads as it did. -/
def fnExactEditHitsUptoRow : OpenClaim := { program := "ytcjonnddgklbfaa", sum := "81bbea64a129ff17679a363b71160419a6b1b044a693e74709e47c5b0d0206c8", func := "loop.example/g00677/laws.FnExactEditHits", spec := "fnExactEditHits", apart := false, narrowed := true }
def FnExactEditHitsUptoSaid : Prop := fnExactEditHitsUptoRow.holds Try.pinned (OpenSpec.upto fnExactEditHitsSpec)

/-- 'laws.FnExactPosMove', WHERE WHAT IT READS IS OF BULK AT MOST 1048576: true; the input reads as it did. -/
def fnExactPosMoveUptoRow : OpenClaim := { program := "ytcjonnddgklbfaa", sum := "81bbea64a129ff17679a363b71160419a6b1b044a693e74709e47c5b0d0206c8", func := "loop.example/g00677/laws.FnExactPosMove", spec := "fnExactPosMove", apart := false, narrowed := true }
def FnExactPosMoveUptoSaid : Prop := fnExactPosMoveUptoRow.holds Try.pinned (OpenSpec.upto fnExactPosMoveSpec)

/-- 'laws.FnExactFramesCut', WHERE WHAT IT READS IS OF BULK AT MOST 1048576: true; the input reads as it did. -/
def fnExactFramesCutUptoRow : OpenClaim := { program := "ytcjonnddgklbfaa", sum := "81bbea64a129ff17679a363b71160419a6b1b044a693e74709e47c5b0d0206c8", func := "loop.example/g00677/laws.FnExactFramesCut", spec := "fnExactFramesCut", apart := false, narrowed := true }
def FnExactFramesCutUptoSaid : Prop := fnExactFramesCutUptoRow.holds Try.pinned (OpenSpec.upto fnExactFramesCutSpec)

/-- 'laws.FnExactSpanMove', WHERE WHAT IT READS IS OF BULK AT MOST 1048576: true; the input reads as it did. -/
def fnExactSpanMoveUptoRow : OpenClaim := { program := "ytcjonnddgklbfaa", sum := "81bbea64a129ff17679a363b71160419a6b1b044a693e74709e47c5b0d0206c8", func := "loop.example/g00677/laws.FnExactSpanMove", spec := "fnExactSpanMove", apart := false, narrowed := true }
def FnExactSpanMoveUptoSaid : Prop := fnExactSpanMoveUptoRow.holds Try.pinned (OpenSpec.upto fnExactSpanMoveSpec)

/-- 'laws.FnExactSelMove', WHERE WHAT IT READS IS OF BULK AT MOST 1048576: true; the input reads as it did. -/
def fnExactSelMoveUptoRow : OpenClaim := { program := "ytcjonnddgklbfaa", sum := "81bbea64a129ff17679a363b71160419a6b1b044a693e74709e47c5b0d0206c8", func := "loop.example/g00677/laws.FnExactSelMove", spec := "fnExactSelMove", apart := false, narrowed := true }
def FnExactSelMoveUptoSaid : Prop := fnExactSelMoveUptoRow.holds Try.pinned (OpenSpec.upto fnExactSelMoveSpec)

/-- 'laws.FnExactLeasesOk', WHERE WHAT IT READS IS OF BULK AT MOST 1048576: true; the input reads as it did. -/
def fnExactLeasesOkUptoRow : OpenClaim := { program := "ytcjonnddgklbfaa", sum := "81bbea64a129ff17679a363b71160419a6b1b044a693e74709e47c5b0d0206c8", func := "loop.example/g00677/laws.FnExactLeasesOk", spec := "fnExactLeasesOk", apart := false, narrowed := true }
def FnExactLeasesOkUptoSaid : Prop := fnExactLeasesOkUptoRow.holds Try.pinned (OpenSpec.upto fnExactLeasesOkSpec)

/-- 'laws.FnExactStackOk', WHERE WHAT IT READS IS OF BULK AT MOST 1048576: true; the input reads as it did. -/
def fnExactStackOkUptoRow : OpenClaim := { program := "ytcjonnddgklbfaa", sum := "81bbea64a129ff17679a363b71160419a6b1b044a693e74709e47c5b0d0206c8", func := "loop.example/g00677/laws.FnExactStackOk", spec := "fnExactStackOk", unfollowed := true, recurses := true, apart := false, narrowed := true }
def FnExactStackOkUptoSaid : Prop := fnExactStackOkUptoRow.holds Try.pinned (OpenSpec.upto fnExactStackOkSpec)

end Rows
end Go.Proofs.Ytcjonnddgklbfaa
