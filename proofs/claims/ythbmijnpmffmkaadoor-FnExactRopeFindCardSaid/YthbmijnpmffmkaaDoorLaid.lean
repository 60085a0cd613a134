/-
  The two tables of unicode/utf8 as every row of this seat lists them: what the calls' contracts ask of the world.
-/
import Derived.Test.YthbmijnpmffmkaaDoorRows
import Derived.PinnedBridge
import Derived.Lib.LaidU8T
import Derived.ProofKit
import Derived.LaidMore
import Derived.Lay
import Derived.SevenTiedAt
import Derived.Stop.Joined
namespace Go.Proofs.YthbmijnpmffmkaaDoor.Laid
open Go.Shelf Go.Lib
def laid : List (String × DataW Unit) := [("unicode/utf8.acceptRanges", Rows.laid_unicode_utf8_acceptRanges), ("unicode/utf8.first", Rows.laid_unicode_utf8_first)]
def ren : Ren := ⟨fun n => n, fun | 5 => 5 | 119 => 98 | 138 => 100 | 139 => 101 | n => n, fun | 3 => 1 | 4 => 2 | n => n⟩
theorem first_eq : Rows.laid_unicode_utf8_first = firstData := Pinned.utf8First_eq
theorem accept_eq : (Rows.laid_unicode_utf8_acceptRanges : DataW Unit) = acceptData := by kernel_rfl
theorem tabs {W : World} (h : laidMetH Tryd.prog laid W) : Utf8Tabs 1 2 W := by
  rw [MakeChecks.laidMetH_plain _ _ _ (by kernel_rfl)] at h
  have h3 : VarReads Tryd.prog W "unicode/utf8.first" firstData := first_eq ▸ laidMet.reads h (.tail _ (.head _))
  have h4 : VarReads Tryd.prog W "unicode/utf8.acceptRanges" acceptData := accept_eq ▸ laidMet.reads h (.head _)
  have L : U8Types Tryd.prog ren := { t5 := Tryd.underlying5, t119 := Tryd.underlying98, t138 := Tryd.underlying100, t139 := Tryd.underlying101 }
  exact utf8Tabs_of_readsT (ρ := ren) L ⟨by kernel_rfl, by kernel_rfl, by kernel_rfl, by kernel_rfl, by kernel_rfl, by kernel_rfl, by kernel_rfl⟩ h3 h4
end Go.Proofs.YthbmijnpmffmkaaDoor.Laid
