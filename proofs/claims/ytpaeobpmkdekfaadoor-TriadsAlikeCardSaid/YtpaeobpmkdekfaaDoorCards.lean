/-
  DERIVED. GIVEN WITH THE SEED: THE CARDS: each row of YtpaeobpmkdekfaaDoorRows.lean that lists a variable, with what it lists TIED to the program's text (the seventh form; the later family's looks); each row that meets fmt, with fmt's text TOLD by the authors' own Lean function (tested against real Go, not proved from fmt's source: count such statements apart). THE CARD IS WHAT COUNTS. Prove the row's statement (the work); the ties are given (YtpaeobpmkdekfaaDoorTie.lean); close each card by the builder's one call (the guide's Derived/Test/ToyasCard.lean, 'card_holds'). Laid BY PROGRAM, IN A SANDBOX (cutbox-door.mjs). By AI agents, Wed Nov 11 2026. No macro, syntax, notation, axiom, sorry.
-/
import Derived.Test.YtpaeobpmkdekfaaDoorRows
import GoSem.ClaimSeven
namespace Go.Proofs.YtpaeobpmkdekfaaDoor
namespace Rows

/-- THE TIED CARD OF 'sackbutlaw04.TriadsWalks'. -/
def triadsWalksCard : Claim7 := { stood := { row := triadsWalksRow, standIns := [], harness := (true, "9b56add9a90b30aa6555ab01311ed45fd99525425d917669a70420ee4a9bed25"), looks := false }, kinds := [], alts := [], laidByText := true, laidKinds := [.data, .pinned], laidTests := true, laidLooks := .later }
def TriadsWalksCardSaid : Prop := Claim7.holds Tryd.pinned (.plain (OpenSpec.ofChange triadsWalksSpec)) triadsWalksCard

/-- THE TIED CARD OF 'sackbutlaw04.TriadsShifts'. -/
def triadsShiftsCard : Claim7 := { stood := { row := triadsShiftsRow, standIns := [], harness := (true, "9b56add9a90b30aa6555ab01311ed45fd99525425d917669a70420ee4a9bed25"), looks := false }, kinds := [], alts := [], laidByText := true, laidKinds := [.data, .pinned], laidTests := true, laidLooks := .later }
def TriadsShiftsCardSaid : Prop := Claim7.holds Tryd.pinned (.plain (OpenSpec.ofChange triadsShiftsSpec)) triadsShiftsCard

/-- THE TIED CARD OF 'sackbutlaw04.TriadsSteps'. -/
def triadsStepsCard : Claim7 := { stood := { row := triadsStepsRow, standIns := [], harness := (true, "9b56add9a90b30aa6555ab01311ed45fd99525425d917669a70420ee4a9bed25"), looks := false }, kinds := [], alts := [], laidByText := true, laidKinds := [.data, .pinned], laidTests := true, laidLooks := .later }
def TriadsStepsCardSaid : Prop := Claim7.holds Tryd.pinned (.plain (OpenSpec.ofChange triadsStepsSpec)) triadsStepsCard

/-- THE TIED CARD OF 'sackbutlaw04.TriadsTones'. -/
def triadsTonesCard : Claim7 := { stood := { row := triadsTonesRow, standIns := [], harness := (true, "9b56add9a90b30aa6555ab01311ed45fd99525425d917669a70420ee4a9bed25"), looks := false }, kinds := [], alts := [], laidByText := true, laidKinds := [.data, .pinned], laidTests := true, laidLooks := .later }
def TriadsTonesCardSaid : Prop := Claim7.holds Tryd.pinned (.plain (OpenSpec.ofChange triadsTonesSpec)) triadsTonesCard

/-- THE TIED CARD OF 'sackbutlaw04.TriadsTours'. -/
def triadsToursCard : Claim7 := { stood := { row := triadsToursRow, standIns := [], harness := (true, "9b56add9a90b30aa6555ab01311ed45fd99525425d917669a70420ee4a9bed25"), looks := false }, kinds := [], alts := [], laidByText := true, laidKinds := [.data, .pinned], laidTests := true, laidLooks := .later }
def TriadsToursCardSaid : Prop := Claim7.holds Tryd.pinned (.plain (OpenSpec.ofChange triadsToursSpec)) triadsToursCard

/-- THE TIED CARD OF 'sackbutlaw04.TriadsFar'. -/
def triadsFarCard : Claim7 := { stood := { row := triadsFarRow, standIns := [], harness := (true, "9b56add9a90b30aa6555ab01311ed45fd99525425d917669a70420ee4a9bed25"), looks := false }, kinds := [], alts := [], laidByText := true, laidKinds := [.data, .pinned], laidTests := true, laidLooks := .later }
def TriadsFarCardSaid : Prop := Claim7.holds Tryd.pinned (.plain (OpenSpec.ofChange triadsFarSpec)) triadsFarCard

/-- THE TIED CARD OF 'sackbutlaw04.TriadsWays'. -/
def triadsWaysCard : Claim7 := { stood := { row := triadsWaysRow, standIns := [], harness := (true, "9b56add9a90b30aa6555ab01311ed45fd99525425d917669a70420ee4a9bed25"), looks := false }, kinds := [], alts := [], laidByText := true, laidKinds := [.data, .pinned], laidTests := true, laidLooks := .later }
def TriadsWaysCardSaid : Prop := Claim7.holds Tryd.pinned (.plain (OpenSpec.ofChange triadsWaysSpec)) triadsWaysCard

/-- THE TIED CARD OF 'sackbutlaw04.TriadsDuals'. -/
def triadsDualsCard : Claim7 := { stood := { row := triadsDualsRow, standIns := [], harness := (true, "9b56add9a90b30aa6555ab01311ed45fd99525425d917669a70420ee4a9bed25"), looks := false }, kinds := [], alts := [], laidByText := true, laidKinds := [.data, .pinned], laidTests := true, laidLooks := .later }
def TriadsDualsCardSaid : Prop := Claim7.holds Tryd.pinned (.plain (OpenSpec.ofChange triadsDualsSpec)) triadsDualsCard

/-- THE TIED CARD OF 'sackbutlaw04.TriadsVisits'. -/
def triadsVisitsCard : Claim7 := { stood := { row := triadsVisitsRow, standIns := [], harness := (true, "9b56add9a90b30aa6555ab01311ed45fd99525425d917669a70420ee4a9bed25"), looks := false }, kinds := [], alts := [], laidByText := true, laidKinds := [.data, .pinned], laidTests := true, laidLooks := .later }
def TriadsVisitsCardSaid : Prop := Claim7.holds Tryd.pinned (.plain (OpenSpec.ofChange triadsVisitsSpec)) triadsVisitsCard

/-- THE TIED CARD OF 'sackbutlaw04.TriadsAlike'. -/
def triadsAlikeCard : Claim7 := { stood := { row := triadsAlikeRow, standIns := [], harness := (true, "9b56add9a90b30aa6555ab01311ed45fd99525425d917669a70420ee4a9bed25"), looks := false }, kinds := [], alts := [], laidByText := true, laidKinds := [.data, .pinned], laidTests := true, laidLooks := .later }
def TriadsAlikeCardSaid : Prop := Claim7.holds Tryd.pinned (.plain (OpenSpec.ofChange triadsAlikeSpec)) triadsAlikeCard

/-- THE TIED CARD OF 'sackbutlaw04.TriadsRounds'. -/
def triadsRoundsCard : Claim7 := { stood := { row := triadsRoundsRow, standIns := [], harness := (true, "9b56add9a90b30aa6555ab01311ed45fd99525425d917669a70420ee4a9bed25"), looks := false }, kinds := [], alts := [], laidByText := true, laidKinds := [.data, .pinned], laidTests := true, laidLooks := .later }
def TriadsRoundsCardSaid : Prop := Claim7.holds Tryd.pinned (.plain (OpenSpec.ofChange triadsRoundsSpec)) triadsRoundsCard

/-- THE TIED CARD OF 'sackbutlaw04.TriadsPairs'. -/
def triadsPairsCard : Claim7 := { stood := { row := triadsPairsRow, standIns := [], harness := (true, "9b56add9a90b30aa6555ab01311ed45fd99525425d917669a70420ee4a9bed25"), looks := false }, kinds := [], alts := [], laidByText := true, laidKinds := [.data, .pinned], laidTests := true, laidLooks := .later }
def TriadsPairsCardSaid : Prop := Claim7.holds Tryd.pinned (.plain (OpenSpec.ofChange triadsPairsSpec)) triadsPairsCard

/-- THE TIED CARD OF 'sackbutlaw04.TriadsSizes'. -/
def triadsSizesCard : Claim7 := { stood := { row := triadsSizesRow, standIns := [], harness := (true, "9b56add9a90b30aa6555ab01311ed45fd99525425d917669a70420ee4a9bed25"), looks := false }, kinds := [], alts := [], laidByText := true, laidKinds := [.data, .pinned], laidTests := true, laidLooks := .later }
def TriadsSizesCardSaid : Prop := Claim7.holds Tryd.pinned (.plain (OpenSpec.ofChange triadsSizesSpec)) triadsSizesCard

/-- THE SECOND FORM's CARD OF 'sackbutlaw04.TriadsWalks'. -/
def triadsWalksUptoCard : Claim7 := { stood := { row := triadsWalksUptoRow, standIns := [], harness := (true, "9b56add9a90b30aa6555ab01311ed45fd99525425d917669a70420ee4a9bed25"), looks := false }, kinds := [], alts := [], laidByText := true, laidKinds := [.data, .pinned], laidTests := true, laidLooks := .later }
def TriadsWalksUptoCardSaid : Prop := Claim7.holds Tryd.pinned (.plain (OpenSpec.upto triadsWalksSpec)) triadsWalksUptoCard

/-- THE SECOND FORM's CARD OF 'sackbutlaw04.TriadsShifts'. -/
def triadsShiftsUptoCard : Claim7 := { stood := { row := triadsShiftsUptoRow, standIns := [], harness := (true, "9b56add9a90b30aa6555ab01311ed45fd99525425d917669a70420ee4a9bed25"), looks := false }, kinds := [], alts := [], laidByText := true, laidKinds := [.data, .pinned], laidTests := true, laidLooks := .later }
def TriadsShiftsUptoCardSaid : Prop := Claim7.holds Tryd.pinned (.plain (OpenSpec.upto triadsShiftsSpec)) triadsShiftsUptoCard

/-- THE SECOND FORM's CARD OF 'sackbutlaw04.TriadsSteps'. -/
def triadsStepsUptoCard : Claim7 := { stood := { row := triadsStepsUptoRow, standIns := [], harness := (true, "9b56add9a90b30aa6555ab01311ed45fd99525425d917669a70420ee4a9bed25"), looks := false }, kinds := [], alts := [], laidByText := true, laidKinds := [.data, .pinned], laidTests := true, laidLooks := .later }
def TriadsStepsUptoCardSaid : Prop := Claim7.holds Tryd.pinned (.plain (OpenSpec.upto triadsStepsSpec)) triadsStepsUptoCard

/-- THE SECOND FORM's CARD OF 'sackbutlaw04.TriadsTones'. -/
def triadsTonesUptoCard : Claim7 := { stood := { row := triadsTonesUptoRow, standIns := [], harness := (true, "9b56add9a90b30aa6555ab01311ed45fd99525425d917669a70420ee4a9bed25"), looks := false }, kinds := [], alts := [], laidByText := true, laidKinds := [.data, .pinned], laidTests := true, laidLooks := .later }
def TriadsTonesUptoCardSaid : Prop := Claim7.holds Tryd.pinned (.plain (OpenSpec.upto triadsTonesSpec)) triadsTonesUptoCard

/-- THE SECOND FORM's CARD OF 'sackbutlaw04.TriadsTours'. -/
def triadsToursUptoCard : Claim7 := { stood := { row := triadsToursUptoRow, standIns := [], harness := (true, "9b56add9a90b30aa6555ab01311ed45fd99525425d917669a70420ee4a9bed25"), looks := false }, kinds := [], alts := [], laidByText := true, laidKinds := [.data, .pinned], laidTests := true, laidLooks := .later }
def TriadsToursUptoCardSaid : Prop := Claim7.holds Tryd.pinned (.plain (OpenSpec.upto triadsToursSpec)) triadsToursUptoCard

/-- THE SECOND FORM's CARD OF 'sackbutlaw04.TriadsFar'. -/
def triadsFarUptoCard : Claim7 := { stood := { row := triadsFarUptoRow, standIns := [], harness := (true, "9b56add9a90b30aa6555ab01311ed45fd99525425d917669a70420ee4a9bed25"), looks := false }, kinds := [], alts := [], laidByText := true, laidKinds := [.data, .pinned], laidTests := true, laidLooks := .later }
def TriadsFarUptoCardSaid : Prop := Claim7.holds Tryd.pinned (.plain (OpenSpec.upto triadsFarSpec)) triadsFarUptoCard

/-- THE SECOND FORM's CARD OF 'sackbutlaw04.TriadsWays'. -/
def triadsWaysUptoCard : Claim7 := { stood := { row := triadsWaysUptoRow, standIns := [], harness := (true, "9b56add9a90b30aa6555ab01311ed45fd99525425d917669a70420ee4a9bed25"), looks := false }, kinds := [], alts := [], laidByText := true, laidKinds := [.data, .pinned], laidTests := true, laidLooks := .later }
def TriadsWaysUptoCardSaid : Prop := Claim7.holds Tryd.pinned (.plain (OpenSpec.upto triadsWaysSpec)) triadsWaysUptoCard

/-- THE SECOND FORM's CARD OF 'sackbutlaw04.TriadsDuals'. -/
def triadsDualsUptoCard : Claim7 := { stood := { row := triadsDualsUptoRow, standIns := [], harness := (true, "9b56add9a90b30aa6555ab01311ed45fd99525425d917669a70420ee4a9bed25"), looks := false }, kinds := [], alts := [], laidByText := true, laidKinds := [.data, .pinned], laidTests := true, laidLooks := .later }
def TriadsDualsUptoCardSaid : Prop := Claim7.holds Tryd.pinned (.plain (OpenSpec.upto triadsDualsSpec)) triadsDualsUptoCard

/-- THE SECOND FORM's CARD OF 'sackbutlaw04.TriadsVisits'. -/
def triadsVisitsUptoCard : Claim7 := { stood := { row := triadsVisitsUptoRow, standIns := [], harness := (true, "9b56add9a90b30aa6555ab01311ed45fd99525425d917669a70420ee4a9bed25"), looks := false }, kinds := [], alts := [], laidByText := true, laidKinds := [.data, .pinned], laidTests := true, laidLooks := .later }
def TriadsVisitsUptoCardSaid : Prop := Claim7.holds Tryd.pinned (.plain (OpenSpec.upto triadsVisitsSpec)) triadsVisitsUptoCard

/-- THE SECOND FORM's CARD OF 'sackbutlaw04.TriadsAlike'. -/
def triadsAlikeUptoCard : Claim7 := { stood := { row := triadsAlikeUptoRow, standIns := [], harness := (true, "9b56add9a90b30aa6555ab01311ed45fd99525425d917669a70420ee4a9bed25"), looks := false }, kinds := [], alts := [], laidByText := true, laidKinds := [.data, .pinned], laidTests := true, laidLooks := .later }
def TriadsAlikeUptoCardSaid : Prop := Claim7.holds Tryd.pinned (.plain (OpenSpec.upto triadsAlikeSpec)) triadsAlikeUptoCard

/-- THE SECOND FORM's CARD OF 'sackbutlaw04.TriadsRounds'. -/
def triadsRoundsUptoCard : Claim7 := { stood := { row := triadsRoundsUptoRow, standIns := [], harness := (true, "9b56add9a90b30aa6555ab01311ed45fd99525425d917669a70420ee4a9bed25"), looks := false }, kinds := [], alts := [], laidByText := true, laidKinds := [.data, .pinned], laidTests := true, laidLooks := .later }
def TriadsRoundsUptoCardSaid : Prop := Claim7.holds Tryd.pinned (.plain (OpenSpec.upto triadsRoundsSpec)) triadsRoundsUptoCard

/-- THE SECOND FORM's CARD OF 'sackbutlaw04.TriadsPairs'. -/
def triadsPairsUptoCard : Claim7 := { stood := { row := triadsPairsUptoRow, standIns := [], harness := (true, "9b56add9a90b30aa6555ab01311ed45fd99525425d917669a70420ee4a9bed25"), looks := false }, kinds := [], alts := [], laidByText := true, laidKinds := [.data, .pinned], laidTests := true, laidLooks := .later }
def TriadsPairsUptoCardSaid : Prop := Claim7.holds Tryd.pinned (.plain (OpenSpec.upto triadsPairsSpec)) triadsPairsUptoCard

/-- THE SECOND FORM's CARD OF 'sackbutlaw04.TriadsSizes'. -/
def triadsSizesUptoCard : Claim7 := { stood := { row := triadsSizesUptoRow, standIns := [], harness := (true, "9b56add9a90b30aa6555ab01311ed45fd99525425d917669a70420ee4a9bed25"), looks := false }, kinds := [], alts := [], laidByText := true, laidKinds := [.data, .pinned], laidTests := true, laidLooks := .later }
def TriadsSizesUptoCardSaid : Prop := Claim7.holds Tryd.pinned (.plain (OpenSpec.upto triadsSizesSpec)) triadsSizesUptoCard
end Rows
end Go.Proofs.YtpaeobpmkdekfaaDoor
