/-
  Rows of the call's own, told by the range of blocks in which they lie: what a law needs that has two deep rows at once. No program in sight.
-/
import Derived.Test.YtgginlfbdhkepaaWMore
import Derived.Test.YtgginlfbdhkepaaWKept
import Derived.Test.YtgginlfbdhkepaaWApart
namespace Go.Proofs.Ytgginlfbdhkepaa.Deep
open Go.RowKit Go.Proofs.YtgginlfbdhkepaaW.PrintWords
/-- Blocks of a range. -/
def Rng (lo hi : Nat) : Nat → Prop := fun k => lo ≤ k ∧ k < hi
section
variable {α : Type} {d : Kd α} {e lo hi lo' hi' n : Nat} {w W W1 : World} {v : Value} {xs ys : List α} {ok : Nat → Prop}
theorem named {P : Program} {f : Nat} {args : Array Value} {Q : Ending → World → Prop} {Wi Wc : World} (hb : Below Wi.heap.size Wi Wc) (k : ∀ w', w' = Wc → Below Wi.heap.size Wi w' → Calls P f args w' Q) : Calls P f args Wc Q := k Wc rfl hb
theorem box_set (w : World) (c c' : Value) (t : TypeId) : ((w.alloc (.cells #[c] t (0, 0))).setCell ⟨w.heap.size, 0, none⟩ c').heap[w.heap.size]? = some (.cells #[c'] t (0, 0)) := blk_put (blk_new w _) 0 c' rfl
theorem R_new (h : d.R e W1 W.heap.size ok v xs) (hB : Below w.heap.size w W) (hb : Below W.heap.size W W1) (hn : n ≤ W.heap.size) :
    ∃ lo hi, n ≤ lo ∧ lo ≤ hi ∧ hi ≤ W1.heap.size ∧ d.R e W1 w.heap.size (Rng lo hi) v xs :=
  ⟨W.heap.size, W1.heap.size, hn, hb.size, Nat.le_refl _, Kd.R_lower (Kd.R_mono (Kd.R_bound h) (fun _ hk => ⟨hk.2.1, hk.2.2.1⟩)) hB.size⟩
theorem S_new (h : Kd.S d e W1 W.heap.size ok v xs) (hB : Below w.heap.size w W) (hb : Below W.heap.size W W1) (hn : n ≤ W.heap.size) :
    ∃ lo hi, n ≤ lo ∧ lo ≤ hi ∧ hi ≤ W1.heap.size ∧ Kd.S d e W1 w.heap.size (Rng lo hi) v xs :=
  ⟨W.heap.size, W1.heap.size, hn, hb.size, Nat.le_refl _, Kd.S_lower (Kd.S_mono (Kd.S_bound h) (fun _ hk => ⟨hk.2.1, hk.2.2.1⟩)) hB.size⟩
theorem R_mark {b : Nat} (hE : d.E = []) (h : d.R e W b (fun k_ => (Rng lo hi k_ ∨ W1.heap.size ≤ k_)) v xs) (h0 : d.R e w b (Rng lo hi) v ys) : d.R e W b (Rng lo hi) v xs := Kd.R_reok hE h (fun k hk => h0.1 k hk)
theorem apart (h : hi ≤ lo' ∨ hi' ≤ lo) : ∀ k, Rng lo hi k → ¬ Rng lo' hi' k := fun k h1 h2 => by
  have a1 : lo ≤ k ∧ k < hi := h1
  have a2 : lo' ≤ k ∧ k < hi' := h2
  omega
theorem blk_kept {g : Nat} {o : Obj} (h : W.heap[g]? = some o) (hk : Kept W W1 (Rng lo hi)) (hg : g < lo ∨ hi ≤ g) : W1.heap[g]? = some o := Go.Proofs.YtgginlfbdhkepaaW.PrintWords.blk_kept h hk (fun hs => by
  have a2 : lo ≤ g ∧ g < hi := hs
  omega)
end
end Go.Proofs.Ytgginlfbdhkepaa.Deep
