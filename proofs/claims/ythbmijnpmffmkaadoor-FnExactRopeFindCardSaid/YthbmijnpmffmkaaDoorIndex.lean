/-
  What the calls' contracts ask of the world where bytes.Index is called: the two tables of unicode/utf8, and that the variable MaxLen holds some number. No program in sight.
-/
import Derived.Test.YthbmijnpmffmkaaDoorBytes
import Derived.Shelf.Unicode.WordAny
namespace Go.Proofs.YthbmijnpmffmkaaDoor.Index
open Go.RowKit
def Tabs (a b c : Nat) (w : World) : Prop := Lib.Utf8Tabs a b w ∧ ∃ m : Int, w.cell? ⟨c, 0, none⟩ = some (.int .i64 m)
theorem tabs_below {a b c : Nat} {w w' : World} (h : Tabs a b c w) (hb : Below w.heap.size w w') : Tabs a b c w' := ⟨Utf8Tabs_below h.1 hb, h.2.elim fun m hm => ⟨m, (hb.cell (World.block_lt_of_cell? w _ hm)).trans hm⟩⟩
end Go.Proofs.YthbmijnpmffmkaaDoor.Index
