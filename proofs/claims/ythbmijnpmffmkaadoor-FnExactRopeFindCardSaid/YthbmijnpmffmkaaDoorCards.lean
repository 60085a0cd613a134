/-
  DERIVED. GIVEN WITH THE SEED: THE CARDS: each row of YthbmijnpmffmkaaDoorRows.lean that lists a variable, with what it lists TIED to the program's text (the seventh form; the later family's looks); each row that meets fmt, with fmt's text TOLD by the authors' own Lean function (tested against real Go, not proved from fmt's source: count such statements apart). THE CARD IS WHAT COUNTS. Prove the row's statement (the work); the ties are given (YthbmijnpmffmkaaDoorTie.lean); close each card by the builder's one call (the guide's Derived/Test/ToyasCard.lean, 'card_holds'). Laid BY PROGRAM, IN A SANDBOX (cutbox-door.mjs). By AI agents, Wed Nov 11 2026. No macro, syntax, notation, axiom, sorry.
-/
import Derived.Test.YthbmijnpmffmkaaDoorRows
import GoSem.ClaimSeven
namespace Go.Proofs.YthbmijnpmffmkaaDoor
namespace Rows

/-- THE TIED CARD OF 'laws.FnExactEditBack'. -/
def fnExactEditBackCard : Claim7 := { stood := { row := fnExactEditBackRow, standIns := [], harness := (true, "2200d833e325100f34b871814f358983062ad26405be2b4c3a85d3fdc759f574"), looks := false }, kinds := [], alts := [], laidByText := true, laidKinds := [.data, .pinned], laidTests := true, laidLooks := .later }
def FnExactEditBackCardSaid : Prop := Claim7.holds Tryd.pinned (.plain (OpenSpec.ofChange fnExactEditBackSpec)) fnExactEditBackCard

/-- THE TIED CARD OF 'laws.FnExactRopeFind'. -/
def fnExactRopeFindCard : Claim7 := { stood := { row := fnExactRopeFindRow, standIns := [], harness := (true, "2200d833e325100f34b871814f358983062ad26405be2b4c3a85d3fdc759f574"), looks := false }, kinds := [], alts := [], laidByText := true, laidKinds := [.data, .pinned], laidTests := true, laidLooks := .later }
def FnExactRopeFindCardSaid : Prop := Claim7.holds Tryd.pinned (.plain (OpenSpec.ofChange fnExactRopeFindSpec)) fnExactRopeFindCard

/-- THE TIED CARD OF 'laws.FnExactReqOk'. -/
def fnExactReqOkCard : Claim7 := { stood := { row := fnExactReqOkRow, standIns := [], harness := (true, "2200d833e325100f34b871814f358983062ad26405be2b4c3a85d3fdc759f574"), looks := false }, kinds := [], alts := [], laidByText := true, laidKinds := [.data, .pinned], laidTests := true, laidLooks := .later }
def FnExactReqOkCardSaid : Prop := Claim7.holds Tryd.pinned (.plain (OpenSpec.ofChange fnExactReqOkSpec)) fnExactReqOkCard

/-- THE TIED CARD OF 'laws.FnExactReplyRead'. -/
def fnExactReplyReadCard : Claim7 := { stood := { row := fnExactReplyReadRow, standIns := [], harness := (true, "2200d833e325100f34b871814f358983062ad26405be2b4c3a85d3fdc759f574"), looks := false }, kinds := [], alts := [], laidByText := true, laidKinds := [.data, .pinned], laidTests := true, laidLooks := .later }
def FnExactReplyReadCardSaid : Prop := Claim7.holds Tryd.pinned (.plain (OpenSpec.ofChange fnExactReplyReadSpec)) fnExactReplyReadCard

/-- THE SECOND FORM's CARD OF 'laws.FnExactEditBack'. -/
def fnExactEditBackUptoCard : Claim7 := { stood := { row := fnExactEditBackUptoRow, standIns := [], harness := (true, "2200d833e325100f34b871814f358983062ad26405be2b4c3a85d3fdc759f574"), looks := false }, kinds := [], alts := [], laidByText := true, laidKinds := [.data, .pinned], laidTests := true, laidLooks := .later }
def FnExactEditBackUptoCardSaid : Prop := Claim7.holds Tryd.pinned (.plain (OpenSpec.upto fnExactEditBackSpec)) fnExactEditBackUptoCard

/-- THE SECOND FORM's CARD OF 'laws.FnExactRopeFind'. -/
def fnExactRopeFindUptoCard : Claim7 := { stood := { row := fnExactRopeFindUptoRow, standIns := [], harness := (true, "2200d833e325100f34b871814f358983062ad26405be2b4c3a85d3fdc759f574"), looks := false }, kinds := [], alts := [], laidByText := true, laidKinds := [.data, .pinned], laidTests := true, laidLooks := .later }
def FnExactRopeFindUptoCardSaid : Prop := Claim7.holds Tryd.pinned (.plain (OpenSpec.upto fnExactRopeFindSpec)) fnExactRopeFindUptoCard

/-- THE SECOND FORM's CARD OF 'laws.FnExactReqOk'. -/
def fnExactReqOkUptoCard : Claim7 := { stood := { row := fnExactReqOkUptoRow, standIns := [], harness := (true, "2200d833e325100f34b871814f358983062ad26405be2b4c3a85d3fdc759f574"), looks := false }, kinds := [], alts := [], laidByText := true, laidKinds := [.data, .pinned], laidTests := true, laidLooks := .later }
def FnExactReqOkUptoCardSaid : Prop := Claim7.holds Tryd.pinned (.plain (OpenSpec.upto fnExactReqOkSpec)) fnExactReqOkUptoCard

/-- THE SECOND FORM's CARD OF 'laws.FnExactReplyRead'. -/
def fnExactReplyReadUptoCard : Claim7 := { stood := { row := fnExactReplyReadUptoRow, standIns := [], harness := (true, "2200d833e325100f34b871814f358983062ad26405be2b4c3a85d3fdc759f574"), looks := false }, kinds := [], alts := [], laidByText := true, laidKinds := [.data, .pinned], laidTests := true, laidLooks := .later }
def FnExactReplyReadUptoCardSaid : Prop := Claim7.holds Tryd.pinned (.plain (OpenSpec.upto fnExactReplyReadSpec)) fnExactReplyReadUptoCard
end Rows
end Go.Proofs.YthbmijnpmffmkaaDoor
