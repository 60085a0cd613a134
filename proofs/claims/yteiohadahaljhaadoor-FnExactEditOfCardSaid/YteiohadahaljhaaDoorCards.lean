/-
  DERIVED. GIVEN WITH THE SEED: THE CARDS: each row of YteiohadahaljhaaDoorRows.lean that lists a variable, with what it lists TIED to the program's text (the seventh form; the later family's looks); each row that meets fmt, with fmt's text TOLD by the authors' own Lean function (tested against real Go, not proved from fmt's source: count such statements apart). THE CARD IS WHAT COUNTS. Prove the row's statement (the work); the ties are given (YteiohadahaljhaaDoorTie.lean); close each card by the builder's one call (the guide's Derived/Test/ToyasCard.lean, 'card_holds'). Laid BY PROGRAM, IN A SANDBOX (cutbox-door.mjs). By AI agents, Wed Nov 11 2026. No macro, syntax, notation, axiom, sorry.
-/
import Derived.Test.YteiohadahaljhaaDoorRows
import GoSem.ClaimSeven
namespace Go.Proofs.YteiohadahaljhaaDoor
namespace Rows

/-- THE TIED CARD OF 'laws.FnExactRopeLine'. -/
def fnExactRopeLineCard : Claim7 := { stood := { row := fnExactRopeLineRow, standIns := [], harness := (true, "5d4f3a6624c27bfd64b3b8077060ebe7d02f8108d6c152a07234be97f28025a4"), looks := false }, kinds := [], alts := [], laidByText := true, laidKinds := [.data, .pinned], laidTests := true, laidLooks := .later }
def FnExactRopeLineCardSaid : Prop := Claim7.holds Tryd.pinned (.plain (OpenSpec.ofChange fnExactRopeLineSpec)) fnExactRopeLineCard

/-- THE TIED CARD OF 'laws.FnExactRopePlace'. -/
def fnExactRopePlaceCard : Claim7 := { stood := { row := fnExactRopePlaceRow, standIns := [], harness := (true, "5d4f3a6624c27bfd64b3b8077060ebe7d02f8108d6c152a07234be97f28025a4"), looks := false }, kinds := [], alts := [], laidByText := true, laidKinds := [.data, .pinned], laidTests := true, laidLooks := .later }
def FnExactRopePlaceCardSaid : Prop := Claim7.holds Tryd.pinned (.plain (OpenSpec.ofChange fnExactRopePlaceSpec)) fnExactRopePlaceCard

/-- THE TIED CARD OF 'laws.FnExactRopeFind'. -/
def fnExactRopeFindCard : Claim7 := { stood := { row := fnExactRopeFindRow, standIns := [], harness := (true, "5d4f3a6624c27bfd64b3b8077060ebe7d02f8108d6c152a07234be97f28025a4"), looks := false }, kinds := [], alts := [], laidByText := true, laidKinds := [.data, .pinned], laidTests := true, laidLooks := .later }
def FnExactRopeFindCardSaid : Prop := Claim7.holds Tryd.pinned (.plain (OpenSpec.ofChange fnExactRopeFindSpec)) fnExactRopeFindCard

/-- THE TIED CARD OF 'laws.FnExactRopeFindBack'. -/
def fnExactRopeFindBackCard : Claim7 := { stood := { row := fnExactRopeFindBackRow, standIns := [], harness := (true, "5d4f3a6624c27bfd64b3b8077060ebe7d02f8108d6c152a07234be97f28025a4"), looks := false }, kinds := [], alts := [], laidByText := true, laidKinds := [.data, .pinned], laidTests := true, laidLooks := .later }
def FnExactRopeFindBackCardSaid : Prop := Claim7.holds Tryd.pinned (.plain (OpenSpec.ofChange fnExactRopeFindBackSpec)) fnExactRopeFindBackCard

/-- THE TIED CARD OF 'laws.FnExactEditBack'. -/
def fnExactEditBackCard : Claim7 := { stood := { row := fnExactEditBackRow, standIns := [], harness := (true, "5d4f3a6624c27bfd64b3b8077060ebe7d02f8108d6c152a07234be97f28025a4"), looks := false }, kinds := [], alts := [], laidByText := true, laidKinds := [.data, .pinned], laidTests := true, laidLooks := .later }
def FnExactEditBackCardSaid : Prop := Claim7.holds Tryd.pinned (.plain (OpenSpec.ofChange fnExactEditBackSpec)) fnExactEditBackCard

/-- THE TIED CARD OF 'laws.FnExactEditOf'. -/
def fnExactEditOfCard : Claim7 := { stood := { row := fnExactEditOfRow, standIns := [], harness := (true, "5d4f3a6624c27bfd64b3b8077060ebe7d02f8108d6c152a07234be97f28025a4"), looks := false }, kinds := [], alts := [], laidByText := true, laidKinds := [.data, .pinned], laidTests := true, laidLooks := .later }
def FnExactEditOfCardSaid : Prop := Claim7.holds Tryd.pinned (.plain (OpenSpec.ofChange fnExactEditOfSpec)) fnExactEditOfCard

/-- THE SECOND FORM's CARD OF 'laws.FnExactRopeLine'. -/
def fnExactRopeLineUptoCard : Claim7 := { stood := { row := fnExactRopeLineUptoRow, standIns := [], harness := (true, "5d4f3a6624c27bfd64b3b8077060ebe7d02f8108d6c152a07234be97f28025a4"), looks := false }, kinds := [], alts := [], laidByText := true, laidKinds := [.data, .pinned], laidTests := true, laidLooks := .later }
def FnExactRopeLineUptoCardSaid : Prop := Claim7.holds Tryd.pinned (.plain (OpenSpec.upto fnExactRopeLineSpec)) fnExactRopeLineUptoCard

/-- THE SECOND FORM's CARD OF 'laws.FnExactRopePlace'. -/
def fnExactRopePlaceUptoCard : Claim7 := { stood := { row := fnExactRopePlaceUptoRow, standIns := [], harness := (true, "5d4f3a6624c27bfd64b3b8077060ebe7d02f8108d6c152a07234be97f28025a4"), looks := false }, kinds := [], alts := [], laidByText := true, laidKinds := [.data, .pinned], laidTests := true, laidLooks := .later }
def FnExactRopePlaceUptoCardSaid : Prop := Claim7.holds Tryd.pinned (.plain (OpenSpec.upto fnExactRopePlaceSpec)) fnExactRopePlaceUptoCard

/-- THE SECOND FORM's CARD OF 'laws.FnExactRopeFind'. -/
def fnExactRopeFindUptoCard : Claim7 := { stood := { row := fnExactRopeFindUptoRow, standIns := [], harness := (true, "5d4f3a6624c27bfd64b3b8077060ebe7d02f8108d6c152a07234be97f28025a4"), looks := false }, kinds := [], alts := [], laidByText := true, laidKinds := [.data, .pinned], laidTests := true, laidLooks := .later }
def FnExactRopeFindUptoCardSaid : Prop := Claim7.holds Tryd.pinned (.plain (OpenSpec.upto fnExactRopeFindSpec)) fnExactRopeFindUptoCard

/-- THE SECOND FORM's CARD OF 'laws.FnExactRopeFindBack'. -/
def fnExactRopeFindBackUptoCard : Claim7 := { stood := { row := fnExactRopeFindBackUptoRow, standIns := [], harness := (true, "5d4f3a6624c27bfd64b3b8077060ebe7d02f8108d6c152a07234be97f28025a4"), looks := false }, kinds := [], alts := [], laidByText := true, laidKinds := [.data, .pinned], laidTests := true, laidLooks := .later }
def FnExactRopeFindBackUptoCardSaid : Prop := Claim7.holds Tryd.pinned (.plain (OpenSpec.upto fnExactRopeFindBackSpec)) fnExactRopeFindBackUptoCard

/-- THE SECOND FORM's CARD OF 'laws.FnExactEditBack'. -/
def fnExactEditBackUptoCard : Claim7 := { stood := { row := fnExactEditBackUptoRow, standIns := [], harness := (true, "5d4f3a6624c27bfd64b3b8077060ebe7d02f8108d6c152a07234be97f28025a4"), looks := false }, kinds := [], alts := [], laidByText := true, laidKinds := [.data, .pinned], laidTests := true, laidLooks := .later }
def FnExactEditBackUptoCardSaid : Prop := Claim7.holds Tryd.pinned (.plain (OpenSpec.upto fnExactEditBackSpec)) fnExactEditBackUptoCard

/-- THE SECOND FORM's CARD OF 'laws.FnExactEditOf'. -/
def fnExactEditOfUptoCard : Claim7 := { stood := { row := fnExactEditOfUptoRow, standIns := [], harness := (true, "5d4f3a6624c27bfd64b3b8077060ebe7d02f8108d6c152a07234be97f28025a4"), looks := false }, kinds := [], alts := [], laidByText := true, laidKinds := [.data, .pinned], laidTests := true, laidLooks := .later }
def FnExactEditOfUptoCardSaid : Prop := Claim7.holds Tryd.pinned (.plain (OpenSpec.upto fnExactEditOfSpec)) fnExactEditOfUptoCard
end Rows
end Go.Proofs.YteiohadahaljhaaDoor
