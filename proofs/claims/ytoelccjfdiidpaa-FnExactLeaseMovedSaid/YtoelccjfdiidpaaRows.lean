/-
  No cell of these rows narrows 'for every input' (looked for: loops, veiled, ifaces, maps, wideKeys, modest, calm, conditions, laid).
  DERIVED. THE GIVEN ROWS OF THIS SEAT. 7 by the template 'for every input the law returns true; each argument reads behind the call as it read before'; 0 by the template 'total and deterministic' (their statements: YtoelccjfdiidpaaTotals.lean).
  GIVEN WITH THE SEED: the statements are not yours to turn. If you find one false, say at which input.
  Laid BY PROGRAM, IN A SANDBOX (cutbox-rows.mjs): the forced cells as the released guide's own fill.sh prints them over the translation 822a5ff55ef4b7c6… (all of the seat's roots in one cut). By AI agents, Wed Nov 11 2026. No macro, syntax, notation, axiom, sorry.
-/
import Derived.Test.YtoelccjfdiidpaaChecked
import GoSem.Claim
import GoSem.ClaimJoined
import GoSem.ClaimMapViews
import Derived.JoinedTies
import Derived.KernelRfl
namespace Go.Proofs.Ytoelccjfdiidpaa
/- THE CELL 'sum', in the pinned program and in every row, IS THE sha256 OF THE DUMP (.gsa) THAT YtoelccjfdiidpaaProg.lean LOADS. Nothing in Lean hashes anything: it is a label: what it is worth is what the hold of that sum in a sandbox is worth. -/
noncomputable def Try.pinned : Pinned := { name := "ytoelccjfdiidpaa", sum := "822a5ff55ef4b7c68b7928a4b0fa04bd42d8d9cebb085d7773d463ec6baf3df3", checked := Try.checked }
namespace Rows
def none {H : Type} : Left H := { results := [], args := [] }

/-- 'laws.FnExactLeaseAll': WHATEVER THE INPUT: true; the input reads as it did. -/
def fnExactLeaseAllSpec : ChangeSpec := { name := "fnExactLeaseAll", fn := fun _ => fun
  | [d1, d2] => { results := [.lit (.bool true)], args := [d1, d2] }
  | _ => none }
def fnExactLeaseAllRow : OpenClaim := { program := "ytoelccjfdiidpaa", sum := "822a5ff55ef4b7c68b7928a4b0fa04bd42d8d9cebb085d7773d463ec6baf3df3", func := "loop.example/g00677/laws.FnExactLeaseAll", spec := "fnExactLeaseAll", unfollowed := true, recurses := true, apart := false }
def FnExactLeaseAllSaid : Prop := fnExactLeaseAllRow.holds Try.pinned (OpenSpec.ofChange fnExactLeaseAllSpec)

/-- ITS FALSE NEIGHBOUR: 'it returns false'. Refute it at one input. -/
def fnExactLeaseAllWrong : ChangeSpec := { name := "fnExactLeaseAll", fn := fun _ => fun
  | [d1, d2] => { results := [.lit (.bool false)], args := [d1, d2] }
  | _ => none }
def FnExactLeaseAllWrongFalsely : Prop := fnExactLeaseAllRow.holds Try.pinned (OpenSpec.ofChange fnExactLeaseAllWrong)

/-- 'laws.FnExactLeaseExpire': WHATEVER THE INPUT: true; the input reads as it did. -/
def fnExactLeaseExpireSpec : ChangeSpec := { name := "fnExactLeaseExpire", fn := fun _ => fun
  | [d1, d2] => { results := [.lit (.bool true)], args := [d1, d2] }
  | _ => none }
def fnExactLeaseExpireRow : OpenClaim := { program := "ytoelccjfdiidpaa", sum := "822a5ff55ef4b7c68b7928a4b0fa04bd42d8d9cebb085d7773d463ec6baf3df3", func := "loop.example/g00677/laws.FnExactLeaseExpire", spec := "fnExactLeaseExpire", unfollowed := true, recurses := true, apart := false }
def FnExactLeaseExpireSaid : Prop := fnExactLeaseExpireRow.holds Try.pinned (OpenSpec.ofChange fnExactLeaseExpireSpec)

/-- ITS FALSE NEIGHBOUR: 'it returns false'. Refute it at one input. -/
def fnExactLeaseExpireWrong : ChangeSpec := { name := "fnExactLeaseExpire", fn := fun _ => fun
  | [d1, d2] => { results := [.lit (.bool false)], args := [d1, d2] }
  | _ => none }
def FnExactLeaseExpireWrongFalsely : Prop := fnExactLeaseExpireRow.holds Try.pinned (OpenSpec.ofChange fnExactLeaseExpireWrong)

/-- 'laws.FnExactLeaseDrop': WHATEVER THE INPUT: true; the input reads as it did. -/
def fnExactLeaseDropSpec : ChangeSpec := { name := "fnExactLeaseDrop", fn := fun _ => fun
  | [d1, d2] => { results := [.lit (.bool true)], args := [d1, d2] }
  | _ => none }
def fnExactLeaseDropRow : OpenClaim := { program := "ytoelccjfdiidpaa", sum := "822a5ff55ef4b7c68b7928a4b0fa04bd42d8d9cebb085d7773d463ec6baf3df3", func := "loop.example/g00677/laws.FnExactLeaseDrop", spec := "fnExactLeaseDrop", unfollowed := true, recurses := true, apart := false }
def FnExactLeaseDropSaid : Prop := fnExactLeaseDropRow.holds Try.pinned (OpenSpec.ofChange fnExactLeaseDropSpec)

/-- ITS FALSE NEIGHBOUR: 'it returns false'. Refute it at one input. -/
def fnExactLeaseDropWrong : ChangeSpec := { name := "fnExactLeaseDrop", fn := fun _ => fun
  | [d1, d2] => { results := [.lit (.bool false)], args := [d1, d2] }
  | _ => none }
def FnExactLeaseDropWrongFalsely : Prop := fnExactLeaseDropRow.holds Try.pinned (OpenSpec.ofChange fnExactLeaseDropWrong)

/-- 'laws.FnExactLeaseBars': WHATEVER THE INPUT: true; the input reads as it did. -/
def fnExactLeaseBarsSpec : ChangeSpec := { name := "fnExactLeaseBars", fn := fun _ => fun
  | [d1, d2, d3, d4] => { results := [.lit (.bool true)], args := [d1, d2, d3, d4] }
  | _ => none }
def fnExactLeaseBarsRow : OpenClaim := { program := "ytoelccjfdiidpaa", sum := "822a5ff55ef4b7c68b7928a4b0fa04bd42d8d9cebb085d7773d463ec6baf3df3", func := "loop.example/g00677/laws.FnExactLeaseBars", spec := "fnExactLeaseBars", unfollowed := true, recurses := true, apart := false }
def FnExactLeaseBarsSaid : Prop := fnExactLeaseBarsRow.holds Try.pinned (OpenSpec.ofChange fnExactLeaseBarsSpec)

/-- ITS FALSE NEIGHBOUR: 'it returns false'. Refute it at one input. -/
def fnExactLeaseBarsWrong : ChangeSpec := { name := "fnExactLeaseBars", fn := fun _ => fun
  | [d1, d2, d3, d4] => { results := [.lit (.bool false)], args := [d1, d2, d3, d4] }
  | _ => none }
def FnExactLeaseBarsWrongFalsely : Prop := fnExactLeaseBarsRow.holds Try.pinned (OpenSpec.ofChange fnExactLeaseBarsWrong)

/-- 'laws.FnExactLeaseRenew': WHATEVER THE INPUT: true; the input reads as it did. -/
def fnExactLeaseRenewSpec : ChangeSpec := { name := "fnExactLeaseRenew", fn := fun _ => fun
  | [d1, d2, d3] => { results := [.lit (.bool true)], args := [d1, d2, d3] }
  | _ => none }
def fnExactLeaseRenewRow : OpenClaim := { program := "ytoelccjfdiidpaa", sum := "822a5ff55ef4b7c68b7928a4b0fa04bd42d8d9cebb085d7773d463ec6baf3df3", func := "loop.example/g00677/laws.FnExactLeaseRenew", spec := "fnExactLeaseRenew", unfollowed := true, recurses := true, apart := false }
def FnExactLeaseRenewSaid : Prop := fnExactLeaseRenewRow.holds Try.pinned (OpenSpec.ofChange fnExactLeaseRenewSpec)

/-- ITS FALSE NEIGHBOUR: 'it returns false'. Refute it at one input. -/
def fnExactLeaseRenewWrong : ChangeSpec := { name := "fnExactLeaseRenew", fn := fun _ => fun
  | [d1, d2, d3] => { results := [.lit (.bool false)], args := [d1, d2, d3] }
  | _ => none }
def FnExactLeaseRenewWrongFalsely : Prop := fnExactLeaseRenewRow.holds Try.pinned (OpenSpec.ofChange fnExactLeaseRenewWrong)

/-- 'laws.FnExactLeaseTake': WHATEVER THE INPUT: true; the input reads as it did. -/
def fnExactLeaseTakeSpec : ChangeSpec := { name := "fnExactLeaseTake", fn := fun _ => fun
  | [d1, d2, d3] => { results := [.lit (.bool true)], args := [d1, d2, d3] }
  | _ => none }
def fnExactLeaseTakeRow : OpenClaim := { program := "ytoelccjfdiidpaa", sum := "822a5ff55ef4b7c68b7928a4b0fa04bd42d8d9cebb085d7773d463ec6baf3df3", func := "loop.example/g00677/laws.FnExactLeaseTake", spec := "fnExactLeaseTake", inPlace := ["slices.overlaps[loop.example/g00677/impl.Lease]"], unfollowed := true, recurses := true, apart := false }
def FnExactLeaseTakeSaid : Prop := fnExactLeaseTakeRow.holds Try.pinned (OpenSpec.ofChange fnExactLeaseTakeSpec)

/-- ITS FALSE NEIGHBOUR: 'it returns false'. Refute it at one input. -/
def fnExactLeaseTakeWrong : ChangeSpec := { name := "fnExactLeaseTake", fn := fun _ => fun
  | [d1, d2, d3] => { results := [.lit (.bool false)], args := [d1, d2, d3] }
  | _ => none }
def FnExactLeaseTakeWrongFalsely : Prop := fnExactLeaseTakeRow.holds Try.pinned (OpenSpec.ofChange fnExactLeaseTakeWrong)

/-- 'laws.FnExactLeaseMoved': WHATEVER THE INPUT: true; the input reads as it did. -/
def fnExactLeaseMovedSpec : ChangeSpec := { name := "fnExactLeaseMoved", fn := fun _ => fun
  | [d1, d2] => { results := [.lit (.bool true)], args := [d1, d2] }
  | _ => none }
def fnExactLeaseMovedRow : OpenClaim := { program := "ytoelccjfdiidpaa", sum := "822a5ff55ef4b7c68b7928a4b0fa04bd42d8d9cebb085d7773d463ec6baf3df3", func := "loop.example/g00677/laws.FnExactLeaseMoved", spec := "fnExactLeaseMoved", inPlace := ["slices.overlaps[loop.example/g00677/impl.Lease]"], unfollowed := true, recurses := true, apart := false }
def FnExactLeaseMovedSaid : Prop := fnExactLeaseMovedRow.holds Try.pinned (OpenSpec.ofChange fnExactLeaseMovedSpec)

/-- ITS FALSE NEIGHBOUR: 'it returns false'. Refute it at one input. -/
def fnExactLeaseMovedWrong : ChangeSpec := { name := "fnExactLeaseMoved", fn := fun _ => fun
  | [d1, d2] => { results := [.lit (.bool false)], args := [d1, d2] }
  | _ => none }
def FnExactLeaseMovedWrongFalsely : Prop := fnExactLeaseMovedRow.holds Try.pinned (OpenSpec.ofChange fnExactLeaseMovedWrong)

/- THE SECOND FORM. 'bulk': how many values and letters a reading holds, each counted each time it is reached (what is shared counts as often as it is met; a slice's spare places count too). A statement '..UptoSaid' is the law's where the arguments, and the package variables that the reading takes, are together of bulk at most 1048576: NARROWER than '..Said'. Prove '..Said' where nothing that the law and all that it calls make is longer than what came in: it says more and counts as full. Else prove '..UptoSaid'. A law counts once. -/
mutual
def uptoBulk {H : Type} : DataW H → Nat
  | .lit (.string bytes) => bytes.length + 1
  | .lit _ => 1
  | .nil => 1
  | .ptr d => uptoBulk d + 1
  | .slice elems spare => uptoBulkAll elems + uptoBulkAll spare + 1
  | .agg parts => uptoBulkAll parts + 1
  | .iface _ d => uptoBulk d + 1
  | .map entries => uptoBulkEntries entries + 1
  | .held _ => 1
def uptoBulkAll {H : Type} : List (DataW H) → Nat
  | [] => 0
  | d :: r => uptoBulk d + uptoBulkAll r
def uptoBulkEntries {H : Type} : List (Lit × DataW H) → Nat
  | [] => 0
  | x :: r => uptoBulkEntry x + uptoBulkEntries r
def uptoBulkEntry {H : Type} : Lit × DataW H → Nat
  | (.string bytes, d) => bytes.length + uptoBulk d + 1
  | (_, d) => uptoBulk d + 1
 end
def uptoSmall : (H : Type) → List (DataW H) → Bool := fun _ ds => decide (uptoBulkAll ds ≤ 1048576)
def OpenSpec.upto (s : _root_.Go.ChangeSpec) : _root_.Go.OpenSpec := { _root_.Go.OpenSpec.ofChange s with cond := some uptoSmall }

/-- 'laws.FnExactLeaseAll', WHERE WHAT IT READS IS OF BULK AT MOST 1048576: true; the input reads as it did. -/
def fnExactLeaseAllUptoRow : OpenClaim := { program := "ytoelccjfdiidpaa", sum := "822a5ff55ef4b7c68b7928a4b0fa04bd42d8d9cebb085d7773d463ec6baf3df3", func := "loop.example/g00677/laws.FnExactLeaseAll", spec := "fnExactLeaseAll", unfollowed := true, recurses := true, apart := false, narrowed := true }
def FnExactLeaseAllUptoSaid : Prop := fnExactLeaseAllUptoRow.holds Try.pinned (OpenSpec.upto fnExactLeaseAllSpec)

/-- 'laws.FnExactLeaseExpire', WHERE WHAT IT READS IS OF BULK AT MOST 1048576: true; the input reads as it did. -/
def fnExactLeaseExpireUptoRow : OpenClaim := { program := "ytoelccjfdiidpaa", sum := "822a5ff55ef4b7c68b7928a4b0fa04bd42d8d9cebb085d7773d463ec6baf3df3", func := "loop.example/g00677/laws.FnExactLeaseExpire", spec := "fnExactLeaseExpire", unfollowed := true, recurses := true, apart := false, narrowed := true }
def FnExactLeaseExpireUptoSaid : Prop := fnExactLeaseExpireUptoRow.holds Try.pinned (OpenSpec.upto fnExactLeaseExpireSpec)

/-- 'laws.FnExactLeaseDrop', WHERE WHAT IT READS IS OF BULK AT MOST 1048576: true; the input reads as it did. -/
def fnExactLeaseDropUptoRow : OpenClaim := { program := "ytoelccjfdiidpaa", sum := "822a5ff55ef4b7c68b7928a4b0fa04bd42d8d9cebb085d7773d463ec6baf3df3", func := "loop.example/g00677/laws.FnExactLeaseDrop", spec := "fnExactLeaseDrop", unfollowed := true, recurses := true, apart := false, narrowed := true }
def FnExactLeaseDropUptoSaid : Prop := fnExactLeaseDropUptoRow.holds Try.pinned (OpenSpec.upto fnExactLeaseDropSpec)

/-- 'laws.FnExactLeaseBars', WHERE WHAT IT READS IS OF BULK AT MOST 1048576: true; the input reads as it did. -/
def fnExactLeaseBarsUptoRow : OpenClaim := { program := "ytoelccjfdiidpaa", sum := "822a5ff55ef4b7c68b7928a4b0fa04bd42d8d9cebb085d7773d463ec6baf3df3", func := "loop.example/g00677/laws.FnExactLeaseBars", spec := "fnExactLeaseBars", unfollowed := true, recurses := true, apart := false, narrowed := true }
def FnExactLeaseBarsUptoSaid : Prop := fnExactLeaseBarsUptoRow.holds Try.pinned (OpenSpec.upto fnExactLeaseBarsSpec)

/-- 'laws.FnExactLeaseRenew', WHERE WHAT IT READS IS OF BULK AT MOST 1048576: true; the input reads as it did. -/
def fnExactLeaseRenewUptoRow : OpenClaim := { program := "ytoelccjfdiidpaa", sum := "822a5ff55ef4b7c68b7928a4b0fa04bd42d8d9cebb085d7773d463ec6baf3df3", func := "loop.example/g00677/laws.FnExactLeaseRenew", spec := "fnExactLeaseRenew", unfollowed := true, recurses := true, apart := false, narrowed := true }
def FnExactLeaseRenewUptoSaid : Prop := fnExactLeaseRenewUptoRow.holds Try.pinned (OpenSpec.upto fnExactLeaseRenewSpec)

/-- 'laws.FnExactLeaseTake', WHERE WHAT IT READS IS OF BULK AT MOST 1048576: true; the input reads as it did. -/
def fnExactLeaseTakeUptoRow : OpenClaim := { program := "ytoelccjfdiidpaa", sum := "822a5ff55ef4b7c68b7928a4b0fa04bd42d8d9cebb085d7773d463ec6baf3df3", func := "loop.example/g00677/laws.FnExactLeaseTake", spec := "fnExactLeaseTake", inPlace := ["slices.overlaps[loop.example/g00677/impl.Lease]"], unfollowed := true, recurses := true, apart := false, narrowed := true }
def FnExactLeaseTakeUptoSaid : Prop := fnExactLeaseTakeUptoRow.holds Try.pinned (OpenSpec.upto fnExactLeaseTakeSpec)

/-- 'laws.FnExactLeaseMoved', WHERE WHAT IT READS IS OF BULK AT MOST 1048576: true; the input reads as it did. -/
def fnExactLeaseMovedUptoRow : OpenClaim := { program := "ytoelccjfdiidpaa", sum := "822a5ff55ef4b7c68b7928a4b0fa04bd42d8d9cebb085d7773d463ec6baf3df3", func := "loop.example/g00677/laws.FnExactLeaseMoved", spec := "fnExactLeaseMoved", inPlace := ["slices.overlaps[loop.example/g00677/impl.Lease]"], unfollowed := true, recurses := true, apart := false, narrowed := true }
def FnExactLeaseMovedUptoSaid : Prop := fnExactLeaseMovedUptoRow.holds Try.pinned (OpenSpec.upto fnExactLeaseMovedSpec)

end Rows
end Go.Proofs.Ytoelccjfdiidpaa
