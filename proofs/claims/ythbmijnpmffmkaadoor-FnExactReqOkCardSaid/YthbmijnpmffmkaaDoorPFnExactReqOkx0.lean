-- Written by wip/xprint.py (the session's program over the kit's printer) for the claim of FnExactReqOk; Lean checks it.
import Derived.Test.YthbmijnpmffmkaaDoorProg
import Derived.Below
import Derived.Deep.Draws
import Derived.Deep.AppendLies
import Derived.Maps.AppendAt
import Derived.OwnWalk
import Derived.Laws.BytesArg
import Derived.Laws.MakeOwn
import Derived.Laws.OwnMore
import Derived.Deep.OwnRows
import Derived.Tactics
import Derived.Lib.ConvBytes
import Derived.Laws.Slices
import Derived.WalkKit
import Derived.KernelRfl
import Derived.RowKit3
import Derived.Deep.LoopGhost
import Derived.Deep.QuietTactic
import Derived.BigQuiet
import Derived.WideLaws
import Derived.Deep.DeepCutAuto
import Derived.Deep.CutBlock
import Derived.Deep.RegionHeld3
import Derived.Laws.Rows
import Derived.Lib.AppendStr
import Derived.ArgAppend
import Derived.Laws.IdiomCopy
import Derived.OrdersHeld
import Derived.Laws.BitsLemmas
import Derived.RowKit
import Derived.Test.YthbmijnpmffmkaaDoorBytes
import Derived.Test.YthbmijnpmffmkaaDoorValid
import Derived.Test.YthbmijnpmffmkaaDoorWWords
import Derived.Test.YthbmijnpmffmkaaDoorWLast
import Derived.Test.YthbmijnpmffmkaaDoorWTab
import Derived.Test.YthbmijnpmffmkaaDoorWFour
import Derived.Test.YthbmijnpmffmkaaDoorWQPut
import Derived.Test.YthbmijnpmffmkaaDoorWApart
import Derived.Test.YthbmijnpmffmkaaDoorWArr
import Derived.Test.YthbmijnpmffmkaaDoorWZeros
import Derived.Test.YthbmijnpmffmkaaDoorWFoot
import Derived.Test.YthbmijnpmffmkaaDoorWKept
import Derived.Test.YthbmijnpmffmkaaDoorWShare
import Derived.Test.YthbmijnpmffmkaaDoorWN
import Derived.Test.YthbmijnpmffmkaaDoorWFootNe
import Derived.Test.YthbmijnpmffmkaaDoorWAt
import Derived.Test.YthbmijnpmffmkaaDoorWEqStruct
import Derived.Test.YthbmijnpmffmkaaDoorWRepsOne
import Derived.Test.YthbmijnpmffmkaaDoorWInv
import Derived.Test.YthbmijnpmffmkaaDoorWInvWords
import Derived.Test.YthbmijnpmffmkaaDoorWGuard
import Derived.Test.YthbmijnpmffmkaaDoorWNEv
import Derived.Test.YthbmijnpmffmkaaDoorWMore
namespace Go.Proofs.YthbmijnpmffmkaaDoor.PFnExactReqOk
open Go.RowKit Go.Proofs.YthbmijnpmffmkaaDoorW.PrintWords Go.Proofs.YthbmijnpmffmkaaDoorW.PrintLast Go.Proofs.YthbmijnpmffmkaaDoorW.PrintMore
attribute [local go_sem] max2_int min2_int max_two min_two max_three min_three max_four min_four   -- for this text's walks alone
set_option linter.unusedVariables false
set_option linter.unusedSimpArgs false



def errW : Option Int → Value
  | none => .nilIface
  | some c => .iface 0 (.int .i64 c)
theorem errW_none : errW none = .nilIface := rfl
theorem errW_some (c : Int) : errW (some c) = .iface 0 (.int .i64 c) := rfl

theorem info3 : (Tryd.prog.info? 3).map (fun i => (i.zero, i.size, i.bytes)) = some (some (.int .i64 0), 1, 8) := by kernel_rfl
theorem info5 : (Tryd.prog.info? 5).map (fun i => (i.zero, i.size, i.bytes)) = some (some (.int .u8 0), 1, 1) := by kernel_rfl
-- the values' own types
def rd_L2 (xs : List (List Int)) (i : Int) : (List Int) := xs.getD i.toNat ([] : List Int)
theorem at_L2 {w : World} {A : Option Addr} {n : Nat} {xs : List (List Int)} (h : Kd.C (Kd.slice 5 (Kd.int .u8)) w A n xs) (i : Int) (h0 : 0 ≤ i) (h1 : i < n) : ∃ ad A0 c0, A = some ad ∧ w.cell? (ad.add i.toNat) = some (.slice A0 (rd_L2 xs i).length c0) ∧ (rd_L2 xs i).length ≤ c0 ∧ (Kd.int .u8).C w A0 (rd_L2 xs i).length (rd_L2 xs i) := by
  obtain ⟨ad, c, e, _, hK, hc0⟩ := Kd.C_get h ([] : List Int) i h0 h1
  have hc : ∀ j u, c[j]? = some u → w.cell? (ad.add (i.toNat * 1 + j)) = some u := hc0
  obtain ⟨A0, c0, rfl, l0, g0⟩ := hK
  exact ⟨ad, A0, c0, e, by have hq := hc 0 _ rfl; rwa [Nat.mul_one, Nat.add_zero] at hq, l0, g0⟩

theorem cz6 {w : World} {g : Nat} {t : TypeId} {a0 a1 a2 a3 a4 a5 : Value} (h : w.heap[g]? = some (.cells #[a0, a1, a2, a3, a4, a5] t (0, 0))) : w.cell? ⟨g, 0, none⟩ = some a0 ∧ w.cell? ⟨g, 1, none⟩ = some a1 ∧ w.cell? ⟨g, 2, none⟩ = some a2 ∧ w.cell? ⟨g, 3, none⟩ = some a3 ∧ w.cell? ⟨g, 4, none⟩ = some a4 ∧ w.cell? ⟨g, 5, none⟩ = some a5 ∧ w.frozen? ⟨g, 0, none⟩ = false ∧ w.frozen? ⟨g, 1, none⟩ = false ∧ w.frozen? ⟨g, 2, none⟩ = false ∧ w.frozen? ⟨g, 3, none⟩ = false ∧ w.frozen? ⟨g, 4, none⟩ = false ∧ w.frozen? ⟨g, 5, none⟩ = false := ⟨(blk_cell h 0).trans rfl, (blk_cell h 1).trans rfl, (blk_cell h 2).trans rfl, (blk_cell h 3).trans rfl, (blk_cell h 4).trans rfl, (blk_cell h 5).trans rfl, blk_frozen h 0, blk_frozen h 1, blk_frozen h 2, blk_frozen h 3, blk_frozen h 4, blk_frozen h 5⟩
class LtW (w W : World) : Prop where out : Below w.heap.size w W
instance LtW.r (w : World) : LtW w w := ⟨Below.refl _ _⟩
instance LtW.n {w W : World} [h : LtW w W] (n : Nat) : LtW w (W.drewN n) := ⟨pw_below_drewN h.out n⟩
instance LtW.d {w W : World} [h : LtW w W] : LtW w W.drew := ⟨below_drew h.out⟩
instance LtW.a {w W : World} [h : LtW w W] (o : Obj) : LtW w (W.alloc o) := ⟨below_alloc h.out o⟩
theorem kB {w W : World} {g : Nat} {o : Obj} (h : w.heap[g]? = some o) [l : LtW w W] : W.heap[g]? = some o := blk_below h l.out
theorem kR {α : Type} {d : Kd α} {e base : Nat} {w W : World} {ok : Nat → Prop} {v : Value} {xs : List α} (h : d.R e w base ok v xs) [l : LtW w W] : d.R e W base ok v xs := Kd.R_below h l.out
theorem kL {w V W : World} (h : Below w.heap.size w V) [l : LtW V W] : Below w.heap.size w W := below_step h l.out
theorem sA {α : Type} (l : List α) (i : Nat) (a : α) : l.toArray.setIfInBounds i a = (l.set i a).toArray := List.setIfInBounds_toArray l i a
theorem sZ {α : Type} {x y : α} {l : List α} : (x :: l).set 0 y = y :: l := rfl
theorem sS {α : Type} {n : Nat} {x y : α} {l : List α} : (x :: l).set (n + 1) y = x :: l.set n y := rfl
theorem rpI (k : IntKind) (w : World) (b : Nat) (ok : Nat → Prop) : ∀ xs : List Int, Reps (Kd.M (Kd.int k) w b ok) 1 xs (xs.map fun x => .int k x)
  | [] => Reps.none _ _
  | x :: t => Reps.one (show Kd.M (Kd.int k) _ _ _ x [.int k x] from rfl) (rpI k w b ok t)
theorem bA {w W : World} (h : Below w.heap.size w W) (o : Obj) : Below w.heap.size w (W.alloc o) := below_alloc h o
theorem bN {B : Nat} {w W : World} (h : Below B w W) (n : Nat) : Below B w (W.drewN n) := pw_below_drewN h n
theorem bD {B : Nat} {w W : World} (h : Below B w W) : Below B w W.drew := below_drew1 h
theorem bS {w W : World} {g j : Nat} {v : Value} (h : Below w.heap.size w W) (hg : w.heap.size ≤ g) : Below w.heap.size w (W.setCell ⟨g, j, none⟩ v) := below_set h hg
end Go.Proofs.YthbmijnpmffmkaaDoor.PFnExactReqOk
