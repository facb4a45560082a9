/-
  DERIVED. GIVEN WITH THE SEED: THE CARDS: each row of YtpinhnikemamjaaGreatDoorRows.lean that lists a variable, with what it lists TIED to the program's text (the seventh form; the later family's looks); each row that meets fmt, with fmt's text TOLD by the authors' own Lean function (tested against real Go, not proved from fmt's source: count such statements apart). THE CARD IS WHAT COUNTS. Prove the row's statement (the work); the ties are given (YtpinhnikemamjaaGreatDoorTie.lean); close each card by the builder's one call (the guide's Derived/Test/ToyasCard.lean, 'card_holds'). Laid BY PROGRAM, IN A SANDBOX (cutbox-door.mjs). By AI agents, Wed Nov 11 2026. No macro, syntax, notation, axiom, sorry.
-/
import Derived.Test.YtpinhnikemamjaaGreatDoorRows
import GoSem.ClaimSeven
namespace Go.Proofs.YtpinhnikemamjaaGreatDoor
namespace Rows

/-- THE TIED CARD OF 'stereobatelaw16.CoreApart'. -/
def coreApartCard : Claim7 := { stood := { row := coreApartRow, standIns := [], harness := (true, "3614977395c70e75ba1bee2a421b0754ad9b62e352e2b7488d710f66bdc691da"), looks := true }, kinds := [], alts := [], laidByText := true, laidKinds := [.data, .data, .pinned], laidTests := true, laidLooks := .later }
def CoreApartCardSaid : Prop := Claim7.holds Tryz.pinned (.plain (OpenSpec.ofChange coreApartSpec)) coreApartCard

/-- THE TIED CARD OF 'stereobatelaw16.CorePlays'. -/
def corePlaysCard : Claim7 := { stood := { row := corePlaysRow, standIns := [], harness := (true, "3614977395c70e75ba1bee2a421b0754ad9b62e352e2b7488d710f66bdc691da"), looks := true }, kinds := [], alts := [], laidByText := true, laidKinds := [.data, .data, .pinned], laidTests := true, laidLooks := .later }
def CorePlaysCardSaid : Prop := Claim7.holds Tryz.pinned (.plain (OpenSpec.ofChange corePlaysSpec)) corePlaysCard

/-- THE TIED CARD OF 'stereobatelaw16.CoreSpace'. -/
def coreSpaceCard : Claim7 := { stood := { row := coreSpaceRow, standIns := [], harness := (true, "3614977395c70e75ba1bee2a421b0754ad9b62e352e2b7488d710f66bdc691da"), looks := true }, kinds := [], alts := [], laidByText := true, laidKinds := [.data, .data, .pinned], laidTests := true, laidLooks := .later }
def CoreSpaceCardSaid : Prop := Claim7.holds Tryz.pinned (.plain (OpenSpec.ofChange coreSpaceSpec)) coreSpaceCard

/-- THE TIED CARD OF 'stereobatelaw16.CoreNothing'. -/
def coreNothingCard : Claim7 := { stood := { row := coreNothingRow, standIns := [], harness := (true, "3614977395c70e75ba1bee2a421b0754ad9b62e352e2b7488d710f66bdc691da"), looks := true }, kinds := [], alts := [], laidByText := true, laidKinds := [.data, .data, .pinned], laidTests := true, laidLooks := .later }
def CoreNothingCardSaid : Prop := Claim7.holds Tryz.pinned (.plain (OpenSpec.ofChange coreNothingSpec)) coreNothingCard

/-- THE TIED CARD OF 'stereobatelaw17.RedoDoes'. -/
def redoDoesCard : Claim7 := { stood := { row := redoDoesRow, standIns := [], harness := (true, "3614977395c70e75ba1bee2a421b0754ad9b62e352e2b7488d710f66bdc691da"), looks := true }, kinds := [], alts := [], laidByText := true, laidKinds := [.data, .data, .pinned], laidTests := true, laidLooks := .later }
def RedoDoesCardSaid : Prop := Claim7.holds Tryz.pinned (.plain (OpenSpec.ofChange redoDoesSpec)) redoDoesCard

/-- THE TIED CARD OF 'stereobatelaw17.RedoAgain'. -/
def redoAgainCard : Claim7 := { stood := { row := redoAgainRow, standIns := [], harness := (true, "3614977395c70e75ba1bee2a421b0754ad9b62e352e2b7488d710f66bdc691da"), looks := true }, kinds := [], alts := [], laidByText := true, laidKinds := [.data, .data, .pinned], laidTests := true, laidLooks := .later }
def RedoAgainCardSaid : Prop := Claim7.holds Tryz.pinned (.plain (OpenSpec.ofChange redoAgainSpec)) redoAgainCard

/-- THE TIED CARD OF 'stereobatelaw16.CoreAdopts'. -/
def coreAdoptsCard : Claim7 := { stood := { row := coreAdoptsRow, standIns := [], harness := (true, "3614977395c70e75ba1bee2a421b0754ad9b62e352e2b7488d710f66bdc691da"), looks := true }, kinds := [], alts := [], laidByText := true, laidKinds := [.data, .data, .pinned], laidTests := true, laidLooks := .later }
def CoreAdoptsCardSaid : Prop := Claim7.holds Tryz.pinned (.plain (OpenSpec.ofChange coreAdoptsSpec)) coreAdoptsCard

/-- THE SECOND FORM's CARD OF 'stereobatelaw16.CoreApart'. -/
def coreApartUptoCard : Claim7 := { stood := { row := coreApartUptoRow, standIns := [], harness := (true, "3614977395c70e75ba1bee2a421b0754ad9b62e352e2b7488d710f66bdc691da"), looks := true }, kinds := [], alts := [], laidByText := true, laidKinds := [.data, .data, .pinned], laidTests := true, laidLooks := .later }
def CoreApartUptoCardSaid : Prop := Claim7.holds Tryz.pinned (.plain (OpenSpec.upto coreApartSpec)) coreApartUptoCard

/-- THE SECOND FORM's CARD OF 'stereobatelaw16.CorePlays'. -/
def corePlaysUptoCard : Claim7 := { stood := { row := corePlaysUptoRow, standIns := [], harness := (true, "3614977395c70e75ba1bee2a421b0754ad9b62e352e2b7488d710f66bdc691da"), looks := true }, kinds := [], alts := [], laidByText := true, laidKinds := [.data, .data, .pinned], laidTests := true, laidLooks := .later }
def CorePlaysUptoCardSaid : Prop := Claim7.holds Tryz.pinned (.plain (OpenSpec.upto corePlaysSpec)) corePlaysUptoCard

/-- THE SECOND FORM's CARD OF 'stereobatelaw16.CoreSpace'. -/
def coreSpaceUptoCard : Claim7 := { stood := { row := coreSpaceUptoRow, standIns := [], harness := (true, "3614977395c70e75ba1bee2a421b0754ad9b62e352e2b7488d710f66bdc691da"), looks := true }, kinds := [], alts := [], laidByText := true, laidKinds := [.data, .data, .pinned], laidTests := true, laidLooks := .later }
def CoreSpaceUptoCardSaid : Prop := Claim7.holds Tryz.pinned (.plain (OpenSpec.upto coreSpaceSpec)) coreSpaceUptoCard

/-- THE SECOND FORM's CARD OF 'stereobatelaw16.CoreNothing'. -/
def coreNothingUptoCard : Claim7 := { stood := { row := coreNothingUptoRow, standIns := [], harness := (true, "3614977395c70e75ba1bee2a421b0754ad9b62e352e2b7488d710f66bdc691da"), looks := true }, kinds := [], alts := [], laidByText := true, laidKinds := [.data, .data, .pinned], laidTests := true, laidLooks := .later }
def CoreNothingUptoCardSaid : Prop := Claim7.holds Tryz.pinned (.plain (OpenSpec.upto coreNothingSpec)) coreNothingUptoCard

/-- THE SECOND FORM's CARD OF 'stereobatelaw17.RedoDoes'. -/
def redoDoesUptoCard : Claim7 := { stood := { row := redoDoesUptoRow, standIns := [], harness := (true, "3614977395c70e75ba1bee2a421b0754ad9b62e352e2b7488d710f66bdc691da"), looks := true }, kinds := [], alts := [], laidByText := true, laidKinds := [.data, .data, .pinned], laidTests := true, laidLooks := .later }
def RedoDoesUptoCardSaid : Prop := Claim7.holds Tryz.pinned (.plain (OpenSpec.upto redoDoesSpec)) redoDoesUptoCard

/-- THE SECOND FORM's CARD OF 'stereobatelaw17.RedoAgain'. -/
def redoAgainUptoCard : Claim7 := { stood := { row := redoAgainUptoRow, standIns := [], harness := (true, "3614977395c70e75ba1bee2a421b0754ad9b62e352e2b7488d710f66bdc691da"), looks := true }, kinds := [], alts := [], laidByText := true, laidKinds := [.data, .data, .pinned], laidTests := true, laidLooks := .later }
def RedoAgainUptoCardSaid : Prop := Claim7.holds Tryz.pinned (.plain (OpenSpec.upto redoAgainSpec)) redoAgainUptoCard

/-- THE SECOND FORM's CARD OF 'stereobatelaw16.CoreAdopts'. -/
def coreAdoptsUptoCard : Claim7 := { stood := { row := coreAdoptsUptoRow, standIns := [], harness := (true, "3614977395c70e75ba1bee2a421b0754ad9b62e352e2b7488d710f66bdc691da"), looks := true }, kinds := [], alts := [], laidByText := true, laidKinds := [.data, .data, .pinned], laidTests := true, laidLooks := .later }
def CoreAdoptsUptoCardSaid : Prop := Claim7.holds Tryz.pinned (.plain (OpenSpec.upto coreAdoptsSpec)) coreAdoptsUptoCard
end Rows
end Go.Proofs.YtpinhnikemamjaaGreatDoor
