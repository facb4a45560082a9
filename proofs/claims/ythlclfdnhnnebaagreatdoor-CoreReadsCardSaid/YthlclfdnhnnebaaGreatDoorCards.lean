/-
  DERIVED. GIVEN WITH THE SEED: THE CARDS: each row of YthlclfdnhnnebaaGreatDoorRows.lean that lists a variable, with what it lists TIED to the program's text (the seventh form; the later family's looks); each row that meets fmt, with fmt's text TOLD by the authors' own Lean function (tested against real Go, not proved from fmt's source: count such statements apart). THE CARD IS WHAT COUNTS. Prove the row's statement (the work); the ties are given (YthlclfdnhnnebaaGreatDoorTie.lean); close each card by the builder's one call (the guide's Derived/Test/ToyasCard.lean, 'card_holds'). Laid BY PROGRAM, IN A SANDBOX (cutbox-door.mjs). By AI agents, Wed Nov 11 2026. No macro, syntax, notation, axiom, sorry.
-/
import Derived.Test.YthlclfdnhnnebaaGreatDoorRows
import GoSem.ClaimSeven
namespace Go.Proofs.YthlclfdnhnnebaaGreatDoor
namespace Rows

/-- THE TIED CARD OF 'stereobatelaw16.CoreReads'. -/
def coreReadsCard : Claim7 := { stood := { row := coreReadsRow, standIns := [], harness := (true, "7a0e11ac06b4a46ed3bf56c0485fcbf3dd6dc86292c4c8182baeb947c4b3d445"), looks := true }, kinds := [], alts := [], laidByText := true, laidKinds := [.data, .data, .pinned], laidTests := true, laidLooks := .later }
def CoreReadsCardSaid : Prop := Claim7.holds Tryz.pinned (.plain (OpenSpec.ofChange coreReadsSpec)) coreReadsCard

/-- THE TIED CARD OF 'stereobatelaw16.CorePlays'. -/
def corePlaysCard : Claim7 := { stood := { row := corePlaysRow, standIns := [], harness := (true, "7a0e11ac06b4a46ed3bf56c0485fcbf3dd6dc86292c4c8182baeb947c4b3d445"), looks := true }, kinds := [], alts := [], laidByText := true, laidKinds := [.data, .data, .pinned], laidTests := true, laidLooks := .later }
def CorePlaysCardSaid : Prop := Claim7.holds Tryz.pinned (.plain (OpenSpec.ofChange corePlaysSpec)) corePlaysCard

/-- THE TIED CARD OF 'stereobatelaw17.RedoDoes'. -/
def redoDoesCard : Claim7 := { stood := { row := redoDoesRow, standIns := [], harness := (true, "7a0e11ac06b4a46ed3bf56c0485fcbf3dd6dc86292c4c8182baeb947c4b3d445"), looks := true }, kinds := [], alts := [], laidByText := true, laidKinds := [.data, .data, .pinned], laidTests := true, laidLooks := .later }
def RedoDoesCardSaid : Prop := Claim7.holds Tryz.pinned (.plain (OpenSpec.ofChange redoDoesSpec)) redoDoesCard

/-- THE SECOND FORM's CARD OF 'stereobatelaw16.CoreReads'. -/
def coreReadsUptoCard : Claim7 := { stood := { row := coreReadsUptoRow, standIns := [], harness := (true, "7a0e11ac06b4a46ed3bf56c0485fcbf3dd6dc86292c4c8182baeb947c4b3d445"), looks := true }, kinds := [], alts := [], laidByText := true, laidKinds := [.data, .data, .pinned], laidTests := true, laidLooks := .later }
def CoreReadsUptoCardSaid : Prop := Claim7.holds Tryz.pinned (.plain (OpenSpec.upto coreReadsSpec)) coreReadsUptoCard

/-- THE SECOND FORM's CARD OF 'stereobatelaw16.CorePlays'. -/
def corePlaysUptoCard : Claim7 := { stood := { row := corePlaysUptoRow, standIns := [], harness := (true, "7a0e11ac06b4a46ed3bf56c0485fcbf3dd6dc86292c4c8182baeb947c4b3d445"), looks := true }, kinds := [], alts := [], laidByText := true, laidKinds := [.data, .data, .pinned], laidTests := true, laidLooks := .later }
def CorePlaysUptoCardSaid : Prop := Claim7.holds Tryz.pinned (.plain (OpenSpec.upto corePlaysSpec)) corePlaysUptoCard

/-- THE SECOND FORM's CARD OF 'stereobatelaw17.RedoDoes'. -/
def redoDoesUptoCard : Claim7 := { stood := { row := redoDoesUptoRow, standIns := [], harness := (true, "7a0e11ac06b4a46ed3bf56c0485fcbf3dd6dc86292c4c8182baeb947c4b3d445"), looks := true }, kinds := [], alts := [], laidByText := true, laidKinds := [.data, .data, .pinned], laidTests := true, laidLooks := .later }
def RedoDoesUptoCardSaid : Prop := Claim7.holds Tryz.pinned (.plain (OpenSpec.upto redoDoesSpec)) redoDoesUptoCard
end Rows
end Go.Proofs.YthlclfdnhnnebaaGreatDoor
