/-
  DERIVED. GIVEN WITH THE SEED: THE CARDS: each row of YtiidnjbojekngaaDoorRows.lean that lists a variable, with what it lists TIED to the program's text (the seventh form; the later family's looks); each row that meets fmt, with fmt's text TOLD by the authors' own Lean function (tested against real Go, not proved from fmt's source: count such statements apart). THE CARD IS WHAT COUNTS. Prove the row's statement (the work); the ties are given (YtiidnjbojekngaaDoorTie.lean); close each card by the builder's one call (the guide's Derived/Test/ToyasCard.lean, 'card_holds'). Laid BY PROGRAM, IN A SANDBOX (cutbox-door.mjs). By AI agents, Wed Nov 11 2026. No macro, syntax, notation, axiom, sorry.
-/
import Derived.Test.YtiidnjbojekngaaDoorRows
import GoSem.ClaimSeven
namespace Go.Proofs.YtiidnjbojekngaaDoor
namespace Rows

/-- THE TIED CARD OF 'laws.FnExactRuneAt'. -/
def fnExactRuneAtCard : Claim7 := { stood := { row := fnExactRuneAtRow, standIns := [], harness := (true, "2802ba7f802ea24d418c5ac4b13d269826be511c2b0d3dd855a33ade9f5eee0b"), looks := false }, kinds := [], alts := [], laidByText := true, laidKinds := [.data, .pinned], laidTests := true, laidLooks := .later }
def FnExactRuneAtCardSaid : Prop := Claim7.holds Tryd.pinned (.plain (OpenSpec.ofChange fnExactRuneAtSpec)) fnExactRuneAtCard

/-- THE TIED CARD OF 'laws.FnExactRuneSize'. -/
def fnExactRuneSizeCard : Claim7 := { stood := { row := fnExactRuneSizeRow, standIns := [], harness := (true, "2802ba7f802ea24d418c5ac4b13d269826be511c2b0d3dd855a33ade9f5eee0b"), looks := false }, kinds := [], alts := [], laidByText := true, laidKinds := [.data, .pinned], laidTests := true, laidLooks := .later }
def FnExactRuneSizeCardSaid : Prop := Claim7.holds Tryd.pinned (.plain (OpenSpec.ofChange fnExactRuneSizeSpec)) fnExactRuneSizeCard

/-- THE TIED CARD OF 'laws.FnExactTextOk'. -/
def fnExactTextOkCard : Claim7 := { stood := { row := fnExactTextOkRow, standIns := [], harness := (true, "2802ba7f802ea24d418c5ac4b13d269826be511c2b0d3dd855a33ade9f5eee0b"), looks := false }, kinds := [], alts := [], laidByText := true, laidKinds := [.data, .pinned], laidTests := true, laidLooks := .later }
def FnExactTextOkCardSaid : Prop := Claim7.holds Tryd.pinned (.plain (OpenSpec.ofChange fnExactTextOkSpec)) fnExactTextOkCard

/-- THE TIED CARD OF 'laws.FnExactCutOk'. -/
def fnExactCutOkCard : Claim7 := { stood := { row := fnExactCutOkRow, standIns := [], harness := (true, "2802ba7f802ea24d418c5ac4b13d269826be511c2b0d3dd855a33ade9f5eee0b"), looks := false }, kinds := [], alts := [], laidByText := true, laidKinds := [.data, .pinned], laidTests := true, laidLooks := .later }
def FnExactCutOkCardSaid : Prop := Claim7.holds Tryd.pinned (.plain (OpenSpec.ofChange fnExactCutOkSpec)) fnExactCutOkCard

/-- THE TIED CARD OF 'laws.FnExactRuneCount'. -/
def fnExactRuneCountCard : Claim7 := { stood := { row := fnExactRuneCountRow, standIns := [], harness := (true, "2802ba7f802ea24d418c5ac4b13d269826be511c2b0d3dd855a33ade9f5eee0b"), looks := false }, kinds := [], alts := [], laidByText := true, laidKinds := [.data, .pinned], laidTests := true, laidLooks := .later }
def FnExactRuneCountCardSaid : Prop := Claim7.holds Tryd.pinned (.plain (OpenSpec.ofChange fnExactRuneCountSpec)) fnExactRuneCountCard

/-- THE TIED CARD OF 'laws.FnExactSelOk'. -/
def fnExactSelOkCard : Claim7 := { stood := { row := fnExactSelOkRow, standIns := [], harness := (true, "2802ba7f802ea24d418c5ac4b13d269826be511c2b0d3dd855a33ade9f5eee0b"), looks := false }, kinds := [], alts := [], laidByText := true, laidKinds := [.data, .pinned], laidTests := true, laidLooks := .later }
def FnExactSelOkCardSaid : Prop := Claim7.holds Tryd.pinned (.plain (OpenSpec.ofChange fnExactSelOkSpec)) fnExactSelOkCard

/-- THE TIED CARD OF 'laws.FnExactChunkOk'. -/
def fnExactChunkOkCard : Claim7 := { stood := { row := fnExactChunkOkRow, standIns := [], harness := (true, "2802ba7f802ea24d418c5ac4b13d269826be511c2b0d3dd855a33ade9f5eee0b"), looks := false }, kinds := [], alts := [], laidByText := true, laidKinds := [.data, .pinned], laidTests := true, laidLooks := .later }
def FnExactChunkOkCardSaid : Prop := Claim7.holds Tryd.pinned (.plain (OpenSpec.ofChange fnExactChunkOkSpec)) fnExactChunkOkCard

/-- THE TIED CARD OF 'laws.FnExactRunesTo'. -/
def fnExactRunesToCard : Claim7 := { stood := { row := fnExactRunesToRow, standIns := [], harness := (true, "2802ba7f802ea24d418c5ac4b13d269826be511c2b0d3dd855a33ade9f5eee0b"), looks := false }, kinds := [], alts := [], laidByText := true, laidKinds := [.data, .pinned], laidTests := true, laidLooks := .later }
def FnExactRunesToCardSaid : Prop := Claim7.holds Tryd.pinned (.plain (OpenSpec.ofChange fnExactRunesToSpec)) fnExactRunesToCard

/-- THE TIED CARD OF 'laws.FnExactPlaceOf'. -/
def fnExactPlaceOfCard : Claim7 := { stood := { row := fnExactPlaceOfRow, standIns := [], harness := (true, "2802ba7f802ea24d418c5ac4b13d269826be511c2b0d3dd855a33ade9f5eee0b"), looks := false }, kinds := [], alts := [], laidByText := true, laidKinds := [.data, .pinned], laidTests := true, laidLooks := .later }
def FnExactPlaceOfCardSaid : Prop := Claim7.holds Tryd.pinned (.plain (OpenSpec.ofChange fnExactPlaceOfSpec)) fnExactPlaceOfCard

/-- THE TIED CARD OF 'laws.FnExactReplyOk'. -/
def fnExactReplyOkCard : Claim7 := { stood := { row := fnExactReplyOkRow, standIns := [], harness := (true, "2802ba7f802ea24d418c5ac4b13d269826be511c2b0d3dd855a33ade9f5eee0b"), looks := false }, kinds := [], alts := [], laidByText := true, laidKinds := [.data, .pinned], laidTests := true, laidLooks := .later }
def FnExactReplyOkCardSaid : Prop := Claim7.holds Tryd.pinned (.plain (OpenSpec.ofChange fnExactReplyOkSpec)) fnExactReplyOkCard

/-- THE TIED CARD OF 'laws.FnExactEditOk'. -/
def fnExactEditOkCard : Claim7 := { stood := { row := fnExactEditOkRow, standIns := [], harness := (true, "2802ba7f802ea24d418c5ac4b13d269826be511c2b0d3dd855a33ade9f5eee0b"), looks := false }, kinds := [], alts := [], laidByText := true, laidKinds := [.data, .pinned], laidTests := true, laidLooks := .later }
def FnExactEditOkCardSaid : Prop := Claim7.holds Tryd.pinned (.plain (OpenSpec.ofChange fnExactEditOkSpec)) fnExactEditOkCard

/-- THE SECOND FORM's CARD OF 'laws.FnExactRuneAt'. -/
def fnExactRuneAtUptoCard : Claim7 := { stood := { row := fnExactRuneAtUptoRow, standIns := [], harness := (true, "2802ba7f802ea24d418c5ac4b13d269826be511c2b0d3dd855a33ade9f5eee0b"), looks := false }, kinds := [], alts := [], laidByText := true, laidKinds := [.data, .pinned], laidTests := true, laidLooks := .later }
def FnExactRuneAtUptoCardSaid : Prop := Claim7.holds Tryd.pinned (.plain (OpenSpec.upto fnExactRuneAtSpec)) fnExactRuneAtUptoCard

/-- THE SECOND FORM's CARD OF 'laws.FnExactRuneSize'. -/
def fnExactRuneSizeUptoCard : Claim7 := { stood := { row := fnExactRuneSizeUptoRow, standIns := [], harness := (true, "2802ba7f802ea24d418c5ac4b13d269826be511c2b0d3dd855a33ade9f5eee0b"), looks := false }, kinds := [], alts := [], laidByText := true, laidKinds := [.data, .pinned], laidTests := true, laidLooks := .later }
def FnExactRuneSizeUptoCardSaid : Prop := Claim7.holds Tryd.pinned (.plain (OpenSpec.upto fnExactRuneSizeSpec)) fnExactRuneSizeUptoCard

/-- THE SECOND FORM's CARD OF 'laws.FnExactTextOk'. -/
def fnExactTextOkUptoCard : Claim7 := { stood := { row := fnExactTextOkUptoRow, standIns := [], harness := (true, "2802ba7f802ea24d418c5ac4b13d269826be511c2b0d3dd855a33ade9f5eee0b"), looks := false }, kinds := [], alts := [], laidByText := true, laidKinds := [.data, .pinned], laidTests := true, laidLooks := .later }
def FnExactTextOkUptoCardSaid : Prop := Claim7.holds Tryd.pinned (.plain (OpenSpec.upto fnExactTextOkSpec)) fnExactTextOkUptoCard

/-- THE SECOND FORM's CARD OF 'laws.FnExactCutOk'. -/
def fnExactCutOkUptoCard : Claim7 := { stood := { row := fnExactCutOkUptoRow, standIns := [], harness := (true, "2802ba7f802ea24d418c5ac4b13d269826be511c2b0d3dd855a33ade9f5eee0b"), looks := false }, kinds := [], alts := [], laidByText := true, laidKinds := [.data, .pinned], laidTests := true, laidLooks := .later }
def FnExactCutOkUptoCardSaid : Prop := Claim7.holds Tryd.pinned (.plain (OpenSpec.upto fnExactCutOkSpec)) fnExactCutOkUptoCard

/-- THE SECOND FORM's CARD OF 'laws.FnExactRuneCount'. -/
def fnExactRuneCountUptoCard : Claim7 := { stood := { row := fnExactRuneCountUptoRow, standIns := [], harness := (true, "2802ba7f802ea24d418c5ac4b13d269826be511c2b0d3dd855a33ade9f5eee0b"), looks := false }, kinds := [], alts := [], laidByText := true, laidKinds := [.data, .pinned], laidTests := true, laidLooks := .later }
def FnExactRuneCountUptoCardSaid : Prop := Claim7.holds Tryd.pinned (.plain (OpenSpec.upto fnExactRuneCountSpec)) fnExactRuneCountUptoCard

/-- THE SECOND FORM's CARD OF 'laws.FnExactSelOk'. -/
def fnExactSelOkUptoCard : Claim7 := { stood := { row := fnExactSelOkUptoRow, standIns := [], harness := (true, "2802ba7f802ea24d418c5ac4b13d269826be511c2b0d3dd855a33ade9f5eee0b"), looks := false }, kinds := [], alts := [], laidByText := true, laidKinds := [.data, .pinned], laidTests := true, laidLooks := .later }
def FnExactSelOkUptoCardSaid : Prop := Claim7.holds Tryd.pinned (.plain (OpenSpec.upto fnExactSelOkSpec)) fnExactSelOkUptoCard

/-- THE SECOND FORM's CARD OF 'laws.FnExactChunkOk'. -/
def fnExactChunkOkUptoCard : Claim7 := { stood := { row := fnExactChunkOkUptoRow, standIns := [], harness := (true, "2802ba7f802ea24d418c5ac4b13d269826be511c2b0d3dd855a33ade9f5eee0b"), looks := false }, kinds := [], alts := [], laidByText := true, laidKinds := [.data, .pinned], laidTests := true, laidLooks := .later }
def FnExactChunkOkUptoCardSaid : Prop := Claim7.holds Tryd.pinned (.plain (OpenSpec.upto fnExactChunkOkSpec)) fnExactChunkOkUptoCard

/-- THE SECOND FORM's CARD OF 'laws.FnExactRunesTo'. -/
def fnExactRunesToUptoCard : Claim7 := { stood := { row := fnExactRunesToUptoRow, standIns := [], harness := (true, "2802ba7f802ea24d418c5ac4b13d269826be511c2b0d3dd855a33ade9f5eee0b"), looks := false }, kinds := [], alts := [], laidByText := true, laidKinds := [.data, .pinned], laidTests := true, laidLooks := .later }
def FnExactRunesToUptoCardSaid : Prop := Claim7.holds Tryd.pinned (.plain (OpenSpec.upto fnExactRunesToSpec)) fnExactRunesToUptoCard

/-- THE SECOND FORM's CARD OF 'laws.FnExactPlaceOf'. -/
def fnExactPlaceOfUptoCard : Claim7 := { stood := { row := fnExactPlaceOfUptoRow, standIns := [], harness := (true, "2802ba7f802ea24d418c5ac4b13d269826be511c2b0d3dd855a33ade9f5eee0b"), looks := false }, kinds := [], alts := [], laidByText := true, laidKinds := [.data, .pinned], laidTests := true, laidLooks := .later }
def FnExactPlaceOfUptoCardSaid : Prop := Claim7.holds Tryd.pinned (.plain (OpenSpec.upto fnExactPlaceOfSpec)) fnExactPlaceOfUptoCard

/-- THE SECOND FORM's CARD OF 'laws.FnExactReplyOk'. -/
def fnExactReplyOkUptoCard : Claim7 := { stood := { row := fnExactReplyOkUptoRow, standIns := [], harness := (true, "2802ba7f802ea24d418c5ac4b13d269826be511c2b0d3dd855a33ade9f5eee0b"), looks := false }, kinds := [], alts := [], laidByText := true, laidKinds := [.data, .pinned], laidTests := true, laidLooks := .later }
def FnExactReplyOkUptoCardSaid : Prop := Claim7.holds Tryd.pinned (.plain (OpenSpec.upto fnExactReplyOkSpec)) fnExactReplyOkUptoCard

/-- THE SECOND FORM's CARD OF 'laws.FnExactEditOk'. -/
def fnExactEditOkUptoCard : Claim7 := { stood := { row := fnExactEditOkUptoRow, standIns := [], harness := (true, "2802ba7f802ea24d418c5ac4b13d269826be511c2b0d3dd855a33ade9f5eee0b"), looks := false }, kinds := [], alts := [], laidByText := true, laidKinds := [.data, .pinned], laidTests := true, laidLooks := .later }
def FnExactEditOkUptoCardSaid : Prop := Claim7.holds Tryd.pinned (.plain (OpenSpec.upto fnExactEditOkSpec)) fnExactEditOkUptoCard
end Rows
end Go.Proofs.YtiidnjbojekngaaDoor
