/-
  DERIVED. GIVEN WITH THE SEED: THE CARDS: each row of YtoeeipkiadbnpaaGreatDoorRows.lean that lists a variable, with what it lists TIED to the program's text (the seventh form; the later family's looks); each row that meets fmt, with fmt's text TOLD by the authors' own Lean function (tested against real Go, not proved from fmt's source: count such statements apart). THE CARD IS WHAT COUNTS. Prove the row's statement (the work); the ties are given (YtoeeipkiadbnpaaGreatDoorTie.lean); close each card by the builder's one call (the guide's Derived/Test/ToyasCard.lean, 'card_holds'). Laid BY PROGRAM, IN A SANDBOX (cutbox-door.mjs). By AI agents, Wed Nov 11 2026. No macro, syntax, notation, axiom, sorry.
-/
import Derived.Test.YtoeeipkiadbnpaaGreatDoorRows
import GoSem.ClaimSeven
namespace Go.Proofs.YtoeeipkiadbnpaaGreatDoor
namespace Rows

/-- THE TIED CARD OF 'sackbutlaw10.LibraryChairs'. -/
def libraryChairsCard : Claim7 := { stood := { row := libraryChairsRow, standIns := [], harness := (true, "5bb24131de8f69d7d5fb1fa9fbe7a8d58a0d3ab4325b6e15303c41a118368d58"), looks := true }, kinds := [], alts := [], laidByText := true, laidKinds := [.data, .data, .data, .data, .sentinel, .sentinel, .pinned, .pinned], laidTests := true, laidLooks := .later }
def LibraryChairsCardSaid : Prop := Claim7.holds Tryz.pinned (.plain (OpenSpec.ofChange libraryChairsSpec)) libraryChairsCard

/-- THE TIED CARD OF 'sackbutlaw10.LibraryLoses'. -/
def libraryLosesCard : Claim7 := { stood := { row := libraryLosesRow, standIns := [], harness := (true, "5bb24131de8f69d7d5fb1fa9fbe7a8d58a0d3ab4325b6e15303c41a118368d58"), looks := true }, kinds := [], alts := [], laidByText := true, laidKinds := [.data, .data, .data, .data, .sentinel, .sentinel, .pinned, .pinned], laidTests := true, laidLooks := .later }
def LibraryLosesCardSaid : Prop := Claim7.holds Tryz.pinned (.plain (OpenSpec.ofChange libraryLosesSpec)) libraryLosesCard

/-- THE TIED CARD OF 'sackbutlaw10.LibraryReels'. -/
def libraryReelsCard : Claim7 := { stood := { row := libraryReelsRow, standIns := [], harness := (true, "5bb24131de8f69d7d5fb1fa9fbe7a8d58a0d3ab4325b6e15303c41a118368d58"), looks := true }, kinds := [], alts := [], laidByText := true, laidKinds := [.data, .data, .data, .data, .sentinel, .sentinel, .pinned, .pinned], laidTests := true, laidLooks := .later }
def LibraryReelsCardSaid : Prop := Claim7.holds Tryz.pinned (.plain (OpenSpec.ofChange libraryReelsSpec)) libraryReelsCard

/-- THE TIED CARD OF 'sackbutlaw10.LibraryReplays'. -/
def libraryReplaysCard : Claim7 := { stood := { row := libraryReplaysRow, standIns := [], harness := (true, "5bb24131de8f69d7d5fb1fa9fbe7a8d58a0d3ab4325b6e15303c41a118368d58"), looks := true }, kinds := [], alts := [], laidByText := true, laidKinds := [.data, .data, .data, .data, .sentinel, .sentinel, .pinned, .pinned], laidTests := true, laidLooks := .later }
def LibraryReplaysCardSaid : Prop := Claim7.holds Tryz.pinned (.plain (OpenSpec.ofChange libraryReplaysSpec)) libraryReplaysCard

/-- THE TIED CARD OF 'sackbutlaw10.LibraryCodes'. -/
def libraryCodesCard : Claim7 := { stood := { row := libraryCodesRow, standIns := [], harness := (true, "5bb24131de8f69d7d5fb1fa9fbe7a8d58a0d3ab4325b6e15303c41a118368d58"), looks := true }, kinds := [], alts := [], laidByText := true, laidKinds := [.data, .data, .data, .data, .sentinel, .sentinel, .pinned, .pinned], laidTests := true, laidLooks := .later }
def LibraryCodesCardSaid : Prop := Claim7.holds Tryz.pinned (.plain (OpenSpec.ofChange libraryCodesSpec)) libraryCodesCard

/-- THE TIED CARD OF 'sackbutlaw10.LibraryHeals'. -/
def libraryHealsCard : Claim7 := { stood := { row := libraryHealsRow, standIns := [], harness := (true, "5bb24131de8f69d7d5fb1fa9fbe7a8d58a0d3ab4325b6e15303c41a118368d58"), looks := true }, kinds := [], alts := [], laidByText := true, laidKinds := [.data, .data, .data, .data, .sentinel, .sentinel, .pinned, .pinned], laidTests := true, laidLooks := .later }
def LibraryHealsCardSaid : Prop := Claim7.holds Tryz.pinned (.plain (OpenSpec.ofChange libraryHealsSpec)) libraryHealsCard

/-- THE TIED CARD OF 'sackbutlaw10.LibraryNobody'. -/
def libraryNobodyCard : Claim7 := { stood := { row := libraryNobodyRow, standIns := [], harness := (true, "5bb24131de8f69d7d5fb1fa9fbe7a8d58a0d3ab4325b6e15303c41a118368d58"), looks := true }, kinds := [], alts := [], laidByText := true, laidKinds := [.data, .data, .data, .data, .sentinel, .sentinel, .pinned, .pinned], laidTests := true, laidLooks := .later }
def LibraryNobodyCardSaid : Prop := Claim7.holds Tryz.pinned (.plain (OpenSpec.ofChange libraryNobodySpec)) libraryNobodyCard

/-- THE TIED CARD OF 'sackbutlaw10.LibraryTurned'. -/
def libraryTurnedCard : Claim7 := { stood := { row := libraryTurnedRow, standIns := [], harness := (true, "5bb24131de8f69d7d5fb1fa9fbe7a8d58a0d3ab4325b6e15303c41a118368d58"), looks := true }, kinds := [], alts := [], laidByText := true, laidKinds := [.data, .data, .data, .data, .sentinel, .sentinel, .pinned, .pinned], laidTests := true, laidLooks := .later }
def LibraryTurnedCardSaid : Prop := Claim7.holds Tryz.pinned (.plain (OpenSpec.ofChange libraryTurnedSpec)) libraryTurnedCard

/-- THE SECOND FORM's CARD OF 'sackbutlaw10.LibraryChairs'. -/
def libraryChairsUptoCard : Claim7 := { stood := { row := libraryChairsUptoRow, standIns := [], harness := (true, "5bb24131de8f69d7d5fb1fa9fbe7a8d58a0d3ab4325b6e15303c41a118368d58"), looks := true }, kinds := [], alts := [], laidByText := true, laidKinds := [.data, .data, .data, .data, .sentinel, .sentinel, .pinned, .pinned], laidTests := true, laidLooks := .later }
def LibraryChairsUptoCardSaid : Prop := Claim7.holds Tryz.pinned (.plain (OpenSpec.upto libraryChairsSpec)) libraryChairsUptoCard

/-- THE SECOND FORM's CARD OF 'sackbutlaw10.LibraryLoses'. -/
def libraryLosesUptoCard : Claim7 := { stood := { row := libraryLosesUptoRow, standIns := [], harness := (true, "5bb24131de8f69d7d5fb1fa9fbe7a8d58a0d3ab4325b6e15303c41a118368d58"), looks := true }, kinds := [], alts := [], laidByText := true, laidKinds := [.data, .data, .data, .data, .sentinel, .sentinel, .pinned, .pinned], laidTests := true, laidLooks := .later }
def LibraryLosesUptoCardSaid : Prop := Claim7.holds Tryz.pinned (.plain (OpenSpec.upto libraryLosesSpec)) libraryLosesUptoCard

/-- THE SECOND FORM's CARD OF 'sackbutlaw10.LibraryReels'. -/
def libraryReelsUptoCard : Claim7 := { stood := { row := libraryReelsUptoRow, standIns := [], harness := (true, "5bb24131de8f69d7d5fb1fa9fbe7a8d58a0d3ab4325b6e15303c41a118368d58"), looks := true }, kinds := [], alts := [], laidByText := true, laidKinds := [.data, .data, .data, .data, .sentinel, .sentinel, .pinned, .pinned], laidTests := true, laidLooks := .later }
def LibraryReelsUptoCardSaid : Prop := Claim7.holds Tryz.pinned (.plain (OpenSpec.upto libraryReelsSpec)) libraryReelsUptoCard

/-- THE SECOND FORM's CARD OF 'sackbutlaw10.LibraryReplays'. -/
def libraryReplaysUptoCard : Claim7 := { stood := { row := libraryReplaysUptoRow, standIns := [], harness := (true, "5bb24131de8f69d7d5fb1fa9fbe7a8d58a0d3ab4325b6e15303c41a118368d58"), looks := true }, kinds := [], alts := [], laidByText := true, laidKinds := [.data, .data, .data, .data, .sentinel, .sentinel, .pinned, .pinned], laidTests := true, laidLooks := .later }
def LibraryReplaysUptoCardSaid : Prop := Claim7.holds Tryz.pinned (.plain (OpenSpec.upto libraryReplaysSpec)) libraryReplaysUptoCard

/-- THE SECOND FORM's CARD OF 'sackbutlaw10.LibraryCodes'. -/
def libraryCodesUptoCard : Claim7 := { stood := { row := libraryCodesUptoRow, standIns := [], harness := (true, "5bb24131de8f69d7d5fb1fa9fbe7a8d58a0d3ab4325b6e15303c41a118368d58"), looks := true }, kinds := [], alts := [], laidByText := true, laidKinds := [.data, .data, .data, .data, .sentinel, .sentinel, .pinned, .pinned], laidTests := true, laidLooks := .later }
def LibraryCodesUptoCardSaid : Prop := Claim7.holds Tryz.pinned (.plain (OpenSpec.upto libraryCodesSpec)) libraryCodesUptoCard

/-- THE SECOND FORM's CARD OF 'sackbutlaw10.LibraryHeals'. -/
def libraryHealsUptoCard : Claim7 := { stood := { row := libraryHealsUptoRow, standIns := [], harness := (true, "5bb24131de8f69d7d5fb1fa9fbe7a8d58a0d3ab4325b6e15303c41a118368d58"), looks := true }, kinds := [], alts := [], laidByText := true, laidKinds := [.data, .data, .data, .data, .sentinel, .sentinel, .pinned, .pinned], laidTests := true, laidLooks := .later }
def LibraryHealsUptoCardSaid : Prop := Claim7.holds Tryz.pinned (.plain (OpenSpec.upto libraryHealsSpec)) libraryHealsUptoCard

/-- THE SECOND FORM's CARD OF 'sackbutlaw10.LibraryNobody'. -/
def libraryNobodyUptoCard : Claim7 := { stood := { row := libraryNobodyUptoRow, standIns := [], harness := (true, "5bb24131de8f69d7d5fb1fa9fbe7a8d58a0d3ab4325b6e15303c41a118368d58"), looks := true }, kinds := [], alts := [], laidByText := true, laidKinds := [.data, .data, .data, .data, .sentinel, .sentinel, .pinned, .pinned], laidTests := true, laidLooks := .later }
def LibraryNobodyUptoCardSaid : Prop := Claim7.holds Tryz.pinned (.plain (OpenSpec.upto libraryNobodySpec)) libraryNobodyUptoCard

/-- THE SECOND FORM's CARD OF 'sackbutlaw10.LibraryTurned'. -/
def libraryTurnedUptoCard : Claim7 := { stood := { row := libraryTurnedUptoRow, standIns := [], harness := (true, "5bb24131de8f69d7d5fb1fa9fbe7a8d58a0d3ab4325b6e15303c41a118368d58"), looks := true }, kinds := [], alts := [], laidByText := true, laidKinds := [.data, .data, .data, .data, .sentinel, .sentinel, .pinned, .pinned], laidTests := true, laidLooks := .later }
def LibraryTurnedUptoCardSaid : Prop := Claim7.holds Tryz.pinned (.plain (OpenSpec.upto libraryTurnedSpec)) libraryTurnedUptoCard
end Rows
end Go.Proofs.YtoeeipkiadbnpaaGreatDoor
