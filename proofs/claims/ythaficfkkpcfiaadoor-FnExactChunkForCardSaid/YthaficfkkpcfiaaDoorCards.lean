/-
  DERIVED. GIVEN WITH THE SEED: THE CARDS: each row of YthaficfkkpcfiaaDoorRows.lean that lists a variable, with what it lists TIED to the program's text (the seventh form; the later family's looks); each row that meets fmt, with fmt's text TOLD by the authors' own Lean function (tested against real Go, not proved from fmt's source: count such statements apart). THE CARD IS WHAT COUNTS. Prove the row's statement (the work); the ties are given (YthaficfkkpcfiaaDoorTie.lean); close each card by the builder's one call (the guide's Derived/Test/ToyasCard.lean, 'card_holds'). Laid BY PROGRAM, IN A SANDBOX (cutbox-door.mjs). By AI agents, Wed Nov 11 2026. No macro, syntax, notation, axiom, sorry.
-/
import Derived.Test.YthaficfkkpcfiaaDoorRows
import GoSem.ClaimSeven
namespace Go.Proofs.YthaficfkkpcfiaaDoor
namespace Rows

/-- THE TIED CARD OF 'laws.FnExactChunksOk'. -/
def fnExactChunksOkCard : Claim7 := { stood := { row := fnExactChunksOkRow, standIns := [], harness := (true, "45b1a460bda47c420ac9ad680df0e135584b807fb219d3d195aa582a9451cc2e"), looks := false }, kinds := [], alts := [], laidByText := true, laidKinds := [.data, .pinned], laidTests := true, laidLooks := .later }
def FnExactChunksOkCardSaid : Prop := Claim7.holds Tryd.pinned (.plain (OpenSpec.ofChange fnExactChunksOkSpec)) fnExactChunksOkCard

/-- THE TIED CARD OF 'laws.FnExactChunksOf'. -/
def fnExactChunksOfCard : Claim7 := { stood := { row := fnExactChunksOfRow, standIns := [], harness := (true, "45b1a460bda47c420ac9ad680df0e135584b807fb219d3d195aa582a9451cc2e"), looks := false }, kinds := [], alts := [], laidByText := true, laidKinds := [.data, .pinned], laidTests := true, laidLooks := .later }
def FnExactChunksOfCardSaid : Prop := Claim7.holds Tryd.pinned (.plain (OpenSpec.ofChange fnExactChunksOfSpec)) fnExactChunksOfCard

/-- THE TIED CARD OF 'laws.FnExactChunkFor'. -/
def fnExactChunkForCard : Claim7 := { stood := { row := fnExactChunkForRow, standIns := [], harness := (true, "45b1a460bda47c420ac9ad680df0e135584b807fb219d3d195aa582a9451cc2e"), looks := false }, kinds := [], alts := [], laidByText := true, laidKinds := [.data, .pinned], laidTests := true, laidLooks := .later }
def FnExactChunkForCardSaid : Prop := Claim7.holds Tryd.pinned (.plain (OpenSpec.ofChange fnExactChunkForSpec)) fnExactChunkForCard

/-- THE TIED CARD OF 'laws.FnExactChunksText'. -/
def fnExactChunksTextCard : Claim7 := { stood := { row := fnExactChunksTextRow, standIns := [], harness := (true, "45b1a460bda47c420ac9ad680df0e135584b807fb219d3d195aa582a9451cc2e"), looks := false }, kinds := [], alts := [], laidByText := true, laidKinds := [.data, .pinned], laidTests := true, laidLooks := .later }
def FnExactChunksTextCardSaid : Prop := Claim7.holds Tryd.pinned (.plain (OpenSpec.ofChange fnExactChunksTextSpec)) fnExactChunksTextCard

/-- THE TIED CARD OF 'laws.FnExactRopeOk'. -/
def fnExactRopeOkCard : Claim7 := { stood := { row := fnExactRopeOkRow, standIns := [], harness := (true, "45b1a460bda47c420ac9ad680df0e135584b807fb219d3d195aa582a9451cc2e"), looks := false }, kinds := [], alts := [], laidByText := true, laidKinds := [.data, .pinned], laidTests := true, laidLooks := .later }
def FnExactRopeOkCardSaid : Prop := Claim7.holds Tryd.pinned (.plain (OpenSpec.ofChange fnExactRopeOkSpec)) fnExactRopeOkCard

/-- THE TIED CARD OF 'laws.FnExactRopeOf'. -/
def fnExactRopeOfCard : Claim7 := { stood := { row := fnExactRopeOfRow, standIns := [], harness := (true, "45b1a460bda47c420ac9ad680df0e135584b807fb219d3d195aa582a9451cc2e"), looks := false }, kinds := [], alts := [], laidByText := true, laidKinds := [.data, .pinned], laidTests := true, laidLooks := .later }
def FnExactRopeOfCardSaid : Prop := Claim7.holds Tryd.pinned (.plain (OpenSpec.ofChange fnExactRopeOfSpec)) fnExactRopeOfCard

/-- THE TIED CARD OF 'laws.FnExactRopeText'. -/
def fnExactRopeTextCard : Claim7 := { stood := { row := fnExactRopeTextRow, standIns := [], harness := (true, "45b1a460bda47c420ac9ad680df0e135584b807fb219d3d195aa582a9451cc2e"), looks := false }, kinds := [], alts := [], laidByText := true, laidKinds := [.data, .pinned], laidTests := true, laidLooks := .later }
def FnExactRopeTextCardSaid : Prop := Claim7.holds Tryd.pinned (.plain (OpenSpec.ofChange fnExactRopeTextSpec)) fnExactRopeTextCard

/-- THE TIED CARD OF 'laws.FnExactRopeSlice'. -/
def fnExactRopeSliceCard : Claim7 := { stood := { row := fnExactRopeSliceRow, standIns := [], harness := (true, "45b1a460bda47c420ac9ad680df0e135584b807fb219d3d195aa582a9451cc2e"), looks := false }, kinds := [], alts := [], laidByText := true, laidKinds := [.data, .pinned], laidTests := true, laidLooks := .later }
def FnExactRopeSliceCardSaid : Prop := Claim7.holds Tryd.pinned (.plain (OpenSpec.ofChange fnExactRopeSliceSpec)) fnExactRopeSliceCard

/-- THE TIED CARD OF 'laws.FnExactMeasOf'. -/
def fnExactMeasOfCard : Claim7 := { stood := { row := fnExactMeasOfRow, standIns := [], harness := (true, "45b1a460bda47c420ac9ad680df0e135584b807fb219d3d195aa582a9451cc2e"), looks := false }, kinds := [], alts := [], laidByText := true, laidKinds := [.data, .pinned], laidTests := true, laidLooks := .later }
def FnExactMeasOfCardSaid : Prop := Claim7.holds Tryd.pinned (.plain (OpenSpec.ofChange fnExactMeasOfSpec)) fnExactMeasOfCard

/-- THE TIED CARD OF 'laws.FnExactRopeMeas'. -/
def fnExactRopeMeasCard : Claim7 := { stood := { row := fnExactRopeMeasRow, standIns := [], harness := (true, "45b1a460bda47c420ac9ad680df0e135584b807fb219d3d195aa582a9451cc2e"), looks := false }, kinds := [], alts := [], laidByText := true, laidKinds := [.data, .pinned], laidTests := true, laidLooks := .later }
def FnExactRopeMeasCardSaid : Prop := Claim7.holds Tryd.pinned (.plain (OpenSpec.ofChange fnExactRopeMeasSpec)) fnExactRopeMeasCard

/-- THE TIED CARD OF 'laws.FnExactReqOk'. -/
def fnExactReqOkCard : Claim7 := { stood := { row := fnExactReqOkRow, standIns := [], harness := (true, "45b1a460bda47c420ac9ad680df0e135584b807fb219d3d195aa582a9451cc2e"), looks := false }, kinds := [], alts := [], laidByText := true, laidKinds := [.data, .pinned], laidTests := true, laidLooks := .later }
def FnExactReqOkCardSaid : Prop := Claim7.holds Tryd.pinned (.plain (OpenSpec.ofChange fnExactReqOkSpec)) fnExactReqOkCard

/-- THE TIED CARD OF 'laws.FnExactReplyRead'. -/
def fnExactReplyReadCard : Claim7 := { stood := { row := fnExactReplyReadRow, standIns := [], harness := (true, "45b1a460bda47c420ac9ad680df0e135584b807fb219d3d195aa582a9451cc2e"), looks := false }, kinds := [], alts := [], laidByText := true, laidKinds := [.data, .pinned], laidTests := true, laidLooks := .later }
def FnExactReplyReadCardSaid : Prop := Claim7.holds Tryd.pinned (.plain (OpenSpec.ofChange fnExactReplyReadSpec)) fnExactReplyReadCard

/-- THE SECOND FORM's CARD OF 'laws.FnExactChunksOk'. -/
def fnExactChunksOkUptoCard : Claim7 := { stood := { row := fnExactChunksOkUptoRow, standIns := [], harness := (true, "45b1a460bda47c420ac9ad680df0e135584b807fb219d3d195aa582a9451cc2e"), looks := false }, kinds := [], alts := [], laidByText := true, laidKinds := [.data, .pinned], laidTests := true, laidLooks := .later }
def FnExactChunksOkUptoCardSaid : Prop := Claim7.holds Tryd.pinned (.plain (OpenSpec.upto fnExactChunksOkSpec)) fnExactChunksOkUptoCard

/-- THE SECOND FORM's CARD OF 'laws.FnExactChunksOf'. -/
def fnExactChunksOfUptoCard : Claim7 := { stood := { row := fnExactChunksOfUptoRow, standIns := [], harness := (true, "45b1a460bda47c420ac9ad680df0e135584b807fb219d3d195aa582a9451cc2e"), looks := false }, kinds := [], alts := [], laidByText := true, laidKinds := [.data, .pinned], laidTests := true, laidLooks := .later }
def FnExactChunksOfUptoCardSaid : Prop := Claim7.holds Tryd.pinned (.plain (OpenSpec.upto fnExactChunksOfSpec)) fnExactChunksOfUptoCard

/-- THE SECOND FORM's CARD OF 'laws.FnExactChunkFor'. -/
def fnExactChunkForUptoCard : Claim7 := { stood := { row := fnExactChunkForUptoRow, standIns := [], harness := (true, "45b1a460bda47c420ac9ad680df0e135584b807fb219d3d195aa582a9451cc2e"), looks := false }, kinds := [], alts := [], laidByText := true, laidKinds := [.data, .pinned], laidTests := true, laidLooks := .later }
def FnExactChunkForUptoCardSaid : Prop := Claim7.holds Tryd.pinned (.plain (OpenSpec.upto fnExactChunkForSpec)) fnExactChunkForUptoCard

/-- THE SECOND FORM's CARD OF 'laws.FnExactChunksText'. -/
def fnExactChunksTextUptoCard : Claim7 := { stood := { row := fnExactChunksTextUptoRow, standIns := [], harness := (true, "45b1a460bda47c420ac9ad680df0e135584b807fb219d3d195aa582a9451cc2e"), looks := false }, kinds := [], alts := [], laidByText := true, laidKinds := [.data, .pinned], laidTests := true, laidLooks := .later }
def FnExactChunksTextUptoCardSaid : Prop := Claim7.holds Tryd.pinned (.plain (OpenSpec.upto fnExactChunksTextSpec)) fnExactChunksTextUptoCard

/-- THE SECOND FORM's CARD OF 'laws.FnExactRopeOk'. -/
def fnExactRopeOkUptoCard : Claim7 := { stood := { row := fnExactRopeOkUptoRow, standIns := [], harness := (true, "45b1a460bda47c420ac9ad680df0e135584b807fb219d3d195aa582a9451cc2e"), looks := false }, kinds := [], alts := [], laidByText := true, laidKinds := [.data, .pinned], laidTests := true, laidLooks := .later }
def FnExactRopeOkUptoCardSaid : Prop := Claim7.holds Tryd.pinned (.plain (OpenSpec.upto fnExactRopeOkSpec)) fnExactRopeOkUptoCard

/-- THE SECOND FORM's CARD OF 'laws.FnExactRopeOf'. -/
def fnExactRopeOfUptoCard : Claim7 := { stood := { row := fnExactRopeOfUptoRow, standIns := [], harness := (true, "45b1a460bda47c420ac9ad680df0e135584b807fb219d3d195aa582a9451cc2e"), looks := false }, kinds := [], alts := [], laidByText := true, laidKinds := [.data, .pinned], laidTests := true, laidLooks := .later }
def FnExactRopeOfUptoCardSaid : Prop := Claim7.holds Tryd.pinned (.plain (OpenSpec.upto fnExactRopeOfSpec)) fnExactRopeOfUptoCard

/-- THE SECOND FORM's CARD OF 'laws.FnExactRopeText'. -/
def fnExactRopeTextUptoCard : Claim7 := { stood := { row := fnExactRopeTextUptoRow, standIns := [], harness := (true, "45b1a460bda47c420ac9ad680df0e135584b807fb219d3d195aa582a9451cc2e"), looks := false }, kinds := [], alts := [], laidByText := true, laidKinds := [.data, .pinned], laidTests := true, laidLooks := .later }
def FnExactRopeTextUptoCardSaid : Prop := Claim7.holds Tryd.pinned (.plain (OpenSpec.upto fnExactRopeTextSpec)) fnExactRopeTextUptoCard

/-- THE SECOND FORM's CARD OF 'laws.FnExactRopeSlice'. -/
def fnExactRopeSliceUptoCard : Claim7 := { stood := { row := fnExactRopeSliceUptoRow, standIns := [], harness := (true, "45b1a460bda47c420ac9ad680df0e135584b807fb219d3d195aa582a9451cc2e"), looks := false }, kinds := [], alts := [], laidByText := true, laidKinds := [.data, .pinned], laidTests := true, laidLooks := .later }
def FnExactRopeSliceUptoCardSaid : Prop := Claim7.holds Tryd.pinned (.plain (OpenSpec.upto fnExactRopeSliceSpec)) fnExactRopeSliceUptoCard

/-- THE SECOND FORM's CARD OF 'laws.FnExactMeasOf'. -/
def fnExactMeasOfUptoCard : Claim7 := { stood := { row := fnExactMeasOfUptoRow, standIns := [], harness := (true, "45b1a460bda47c420ac9ad680df0e135584b807fb219d3d195aa582a9451cc2e"), looks := false }, kinds := [], alts := [], laidByText := true, laidKinds := [.data, .pinned], laidTests := true, laidLooks := .later }
def FnExactMeasOfUptoCardSaid : Prop := Claim7.holds Tryd.pinned (.plain (OpenSpec.upto fnExactMeasOfSpec)) fnExactMeasOfUptoCard

/-- THE SECOND FORM's CARD OF 'laws.FnExactRopeMeas'. -/
def fnExactRopeMeasUptoCard : Claim7 := { stood := { row := fnExactRopeMeasUptoRow, standIns := [], harness := (true, "45b1a460bda47c420ac9ad680df0e135584b807fb219d3d195aa582a9451cc2e"), looks := false }, kinds := [], alts := [], laidByText := true, laidKinds := [.data, .pinned], laidTests := true, laidLooks := .later }
def FnExactRopeMeasUptoCardSaid : Prop := Claim7.holds Tryd.pinned (.plain (OpenSpec.upto fnExactRopeMeasSpec)) fnExactRopeMeasUptoCard

/-- THE SECOND FORM's CARD OF 'laws.FnExactReqOk'. -/
def fnExactReqOkUptoCard : Claim7 := { stood := { row := fnExactReqOkUptoRow, standIns := [], harness := (true, "45b1a460bda47c420ac9ad680df0e135584b807fb219d3d195aa582a9451cc2e"), looks := false }, kinds := [], alts := [], laidByText := true, laidKinds := [.data, .pinned], laidTests := true, laidLooks := .later }
def FnExactReqOkUptoCardSaid : Prop := Claim7.holds Tryd.pinned (.plain (OpenSpec.upto fnExactReqOkSpec)) fnExactReqOkUptoCard

/-- THE SECOND FORM's CARD OF 'laws.FnExactReplyRead'. -/
def fnExactReplyReadUptoCard : Claim7 := { stood := { row := fnExactReplyReadUptoRow, standIns := [], harness := (true, "45b1a460bda47c420ac9ad680df0e135584b807fb219d3d195aa582a9451cc2e"), looks := false }, kinds := [], alts := [], laidByText := true, laidKinds := [.data, .pinned], laidTests := true, laidLooks := .later }
def FnExactReplyReadUptoCardSaid : Prop := Claim7.holds Tryd.pinned (.plain (OpenSpec.upto fnExactReplyReadSpec)) fnExactReplyReadUptoCard
end Rows
end Go.Proofs.YthaficfkkpcfiaaDoor
