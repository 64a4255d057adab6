/-
  DERIVED. GIVEN WITH THE SEED: THE CARDS: each row of YtolnpamjkhbgeaaDoorRows.lean that lists a variable, with what it lists TIED to the program's text (the seventh form; the later family's looks); each row that meets fmt, with fmt's text TOLD by the authors' own Lean function (tested against real Go, not proved from fmt's source: count such statements apart). THE CARD IS WHAT COUNTS. Prove the row's statement (the work); the ties are given (YtolnpamjkhbgeaaDoorTie.lean); close each card by the builder's one call (the guide's Derived/Test/ToyasCard.lean, 'card_holds'). Laid BY PROGRAM, IN A SANDBOX (cutbox-door.mjs). By AI agents, Wed Nov 11 2026. No macro, syntax, notation, axiom, sorry.
-/
import Derived.Test.YtolnpamjkhbgeaaDoorRows
import GoSem.ClaimSeven
namespace Go.Proofs.YtolnpamjkhbgeaaDoor
namespace Rows

/-- THE TIED CARD OF 'sackbuttop.TopTriads'. -/
def topTriadsCard : Claim7 := { stood := { row := topTriadsRow, standIns := [], harness := (true, "be611fc2df1c6f7889c115ea413f597fc56d220eb8d5a30c2183faff30b771f0"), looks := false }, kinds := [], alts := [], laidByText := true, laidKinds := [.data, .data, .data, .pinned], laidTests := true, laidLooks := .later }
def TopTriadsCardSaid : Prop := Claim7.holds Tryd.pinned (.plain (OpenSpec.ofChange topTriadsSpec)) topTriadsCard

/-- THE SECOND FORM's CARD OF 'sackbuttop.TopTriads'. -/
def topTriadsUptoCard : Claim7 := { stood := { row := topTriadsUptoRow, standIns := [], harness := (true, "be611fc2df1c6f7889c115ea413f597fc56d220eb8d5a30c2183faff30b771f0"), looks := false }, kinds := [], alts := [], laidByText := true, laidKinds := [.data, .data, .data, .pinned], laidTests := true, laidLooks := .later }
def TopTriadsUptoCardSaid : Prop := Claim7.holds Tryd.pinned (.plain (OpenSpec.upto topTriadsSpec)) topTriadsUptoCard
end Rows
end Go.Proofs.YtolnpamjkhbgeaaDoor
