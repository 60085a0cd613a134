/-
  DERIVED. GIVEN WITH THE SEED: THE CARDS: each row of YtedmjdjodpgdlaaDoorRows.lean that lists a variable, with what it lists TIED to the program's text (the seventh form; the later family's looks); each row that meets fmt, with fmt's text TOLD by the authors' own Lean function (tested against real Go, not proved from fmt's source: count such statements apart). THE CARD IS WHAT COUNTS. Prove the row's statement (the work); the ties are given (YtedmjdjodpgdlaaDoorTie.lean); close each card by the builder's one call (the guide's Derived/Test/ToyasCard.lean, 'card_holds'). Laid BY PROGRAM, IN A SANDBOX (cutbox-door.mjs). By AI agents, Wed Nov 11 2026. No macro, syntax, notation, axiom, sorry.
-/
import Derived.Test.YtedmjdjodpgdlaaDoorRows
import GoSem.ClaimSeven
namespace Go.Proofs.YtedmjdjodpgdlaaDoor
namespace Rows

/-- THE TIED CARD OF 'laws.FnExactChunksOf'. -/
def fnExactChunksOfCard : Claim7 := { stood := { row := fnExactChunksOfRow, standIns := [], harness := (true, "56e37c1d0797647756add19ccf5e54141b23bb73295feb25cbae3fbefd1940f1"), looks := false }, kinds := [], alts := [], laidByText := true, laidKinds := [.data, .pinned], laidTests := true, laidLooks := .later }
def FnExactChunksOfCardSaid : Prop := Claim7.holds Tryd.pinned (.plain (OpenSpec.ofChange fnExactChunksOfSpec)) fnExactChunksOfCard

/-- THE TIED CARD OF 'laws.FnExactChunksText'. -/
def fnExactChunksTextCard : Claim7 := { stood := { row := fnExactChunksTextRow, standIns := [], harness := (true, "56e37c1d0797647756add19ccf5e54141b23bb73295feb25cbae3fbefd1940f1"), looks := false }, kinds := [], alts := [], laidByText := true, laidKinds := [.data, .pinned], laidTests := true, laidLooks := .later }
def FnExactChunksTextCardSaid : Prop := Claim7.holds Tryd.pinned (.plain (OpenSpec.ofChange fnExactChunksTextSpec)) fnExactChunksTextCard

/-- THE TIED CARD OF 'laws.FnExactRopeOf'. -/
def fnExactRopeOfCard : Claim7 := { stood := { row := fnExactRopeOfRow, standIns := [], harness := (true, "56e37c1d0797647756add19ccf5e54141b23bb73295feb25cbae3fbefd1940f1"), looks := false }, kinds := [], alts := [], laidByText := true, laidKinds := [.data, .pinned], laidTests := true, laidLooks := .later }
def FnExactRopeOfCardSaid : Prop := Claim7.holds Tryd.pinned (.plain (OpenSpec.ofChange fnExactRopeOfSpec)) fnExactRopeOfCard

/-- THE TIED CARD OF 'laws.FnExactRopeText'. -/
def fnExactRopeTextCard : Claim7 := { stood := { row := fnExactRopeTextRow, standIns := [], harness := (true, "56e37c1d0797647756add19ccf5e54141b23bb73295feb25cbae3fbefd1940f1"), looks := false }, kinds := [], alts := [], laidByText := true, laidKinds := [.data, .pinned], laidTests := true, laidLooks := .later }
def FnExactRopeTextCardSaid : Prop := Claim7.holds Tryd.pinned (.plain (OpenSpec.ofChange fnExactRopeTextSpec)) fnExactRopeTextCard

/-- THE TIED CARD OF 'laws.FnExactRopeSlice'. -/
def fnExactRopeSliceCard : Claim7 := { stood := { row := fnExactRopeSliceRow, standIns := [], harness := (true, "56e37c1d0797647756add19ccf5e54141b23bb73295feb25cbae3fbefd1940f1"), looks := false }, kinds := [], alts := [], laidByText := true, laidKinds := [.data, .pinned], laidTests := true, laidLooks := .later }
def FnExactRopeSliceCardSaid : Prop := Claim7.holds Tryd.pinned (.plain (OpenSpec.ofChange fnExactRopeSliceSpec)) fnExactRopeSliceCard

/-- THE TIED CARD OF 'laws.FnExactReqOk'. -/
def fnExactReqOkCard : Claim7 := { stood := { row := fnExactReqOkRow, standIns := [], harness := (true, "56e37c1d0797647756add19ccf5e54141b23bb73295feb25cbae3fbefd1940f1"), looks := false }, kinds := [], alts := [], laidByText := true, laidKinds := [.data, .pinned], laidTests := true, laidLooks := .later }
def FnExactReqOkCardSaid : Prop := Claim7.holds Tryd.pinned (.plain (OpenSpec.ofChange fnExactReqOkSpec)) fnExactReqOkCard

/-- THE TIED CARD OF 'laws.FnExactReplyRead'. -/
def fnExactReplyReadCard : Claim7 := { stood := { row := fnExactReplyReadRow, standIns := [], harness := (true, "56e37c1d0797647756add19ccf5e54141b23bb73295feb25cbae3fbefd1940f1"), looks := false }, kinds := [], alts := [], laidByText := true, laidKinds := [.data, .pinned], laidTests := true, laidLooks := .later }
def FnExactReplyReadCardSaid : Prop := Claim7.holds Tryd.pinned (.plain (OpenSpec.ofChange fnExactReplyReadSpec)) fnExactReplyReadCard

/-- THE SECOND FORM's CARD OF 'laws.FnExactChunksOf'. -/
def fnExactChunksOfUptoCard : Claim7 := { stood := { row := fnExactChunksOfUptoRow, standIns := [], harness := (true, "56e37c1d0797647756add19ccf5e54141b23bb73295feb25cbae3fbefd1940f1"), looks := false }, kinds := [], alts := [], laidByText := true, laidKinds := [.data, .pinned], laidTests := true, laidLooks := .later }
def FnExactChunksOfUptoCardSaid : Prop := Claim7.holds Tryd.pinned (.plain (OpenSpec.upto fnExactChunksOfSpec)) fnExactChunksOfUptoCard

/-- THE SECOND FORM's CARD OF 'laws.FnExactChunksText'. -/
def fnExactChunksTextUptoCard : Claim7 := { stood := { row := fnExactChunksTextUptoRow, standIns := [], harness := (true, "56e37c1d0797647756add19ccf5e54141b23bb73295feb25cbae3fbefd1940f1"), looks := false }, kinds := [], alts := [], laidByText := true, laidKinds := [.data, .pinned], laidTests := true, laidLooks := .later }
def FnExactChunksTextUptoCardSaid : Prop := Claim7.holds Tryd.pinned (.plain (OpenSpec.upto fnExactChunksTextSpec)) fnExactChunksTextUptoCard

/-- THE SECOND FORM's CARD OF 'laws.FnExactRopeOf'. -/
def fnExactRopeOfUptoCard : Claim7 := { stood := { row := fnExactRopeOfUptoRow, standIns := [], harness := (true, "56e37c1d0797647756add19ccf5e54141b23bb73295feb25cbae3fbefd1940f1"), looks := false }, kinds := [], alts := [], laidByText := true, laidKinds := [.data, .pinned], laidTests := true, laidLooks := .later }
def FnExactRopeOfUptoCardSaid : Prop := Claim7.holds Tryd.pinned (.plain (OpenSpec.upto fnExactRopeOfSpec)) fnExactRopeOfUptoCard

/-- THE SECOND FORM's CARD OF 'laws.FnExactRopeText'. -/
def fnExactRopeTextUptoCard : Claim7 := { stood := { row := fnExactRopeTextUptoRow, standIns := [], harness := (true, "56e37c1d0797647756add19ccf5e54141b23bb73295feb25cbae3fbefd1940f1"), looks := false }, kinds := [], alts := [], laidByText := true, laidKinds := [.data, .pinned], laidTests := true, laidLooks := .later }
def FnExactRopeTextUptoCardSaid : Prop := Claim7.holds Tryd.pinned (.plain (OpenSpec.upto fnExactRopeTextSpec)) fnExactRopeTextUptoCard

/-- THE SECOND FORM's CARD OF 'laws.FnExactRopeSlice'. -/
def fnExactRopeSliceUptoCard : Claim7 := { stood := { row := fnExactRopeSliceUptoRow, standIns := [], harness := (true, "56e37c1d0797647756add19ccf5e54141b23bb73295feb25cbae3fbefd1940f1"), looks := false }, kinds := [], alts := [], laidByText := true, laidKinds := [.data, .pinned], laidTests := true, laidLooks := .later }
def FnExactRopeSliceUptoCardSaid : Prop := Claim7.holds Tryd.pinned (.plain (OpenSpec.upto fnExactRopeSliceSpec)) fnExactRopeSliceUptoCard

/-- THE SECOND FORM's CARD OF 'laws.FnExactReqOk'. -/
def fnExactReqOkUptoCard : Claim7 := { stood := { row := fnExactReqOkUptoRow, standIns := [], harness := (true, "56e37c1d0797647756add19ccf5e54141b23bb73295feb25cbae3fbefd1940f1"), looks := false }, kinds := [], alts := [], laidByText := true, laidKinds := [.data, .pinned], laidTests := true, laidLooks := .later }
def FnExactReqOkUptoCardSaid : Prop := Claim7.holds Tryd.pinned (.plain (OpenSpec.upto fnExactReqOkSpec)) fnExactReqOkUptoCard

/-- THE SECOND FORM's CARD OF 'laws.FnExactReplyRead'. -/
def fnExactReplyReadUptoCard : Claim7 := { stood := { row := fnExactReplyReadUptoRow, standIns := [], harness := (true, "56e37c1d0797647756add19ccf5e54141b23bb73295feb25cbae3fbefd1940f1"), looks := false }, kinds := [], alts := [], laidByText := true, laidKinds := [.data, .pinned], laidTests := true, laidLooks := .later }
def FnExactReplyReadUptoCardSaid : Prop := Claim7.holds Tryd.pinned (.plain (OpenSpec.upto fnExactReplyReadSpec)) fnExactReplyReadUptoCard
end Rows
end Go.Proofs.YtedmjdjodpgdlaaDoor
