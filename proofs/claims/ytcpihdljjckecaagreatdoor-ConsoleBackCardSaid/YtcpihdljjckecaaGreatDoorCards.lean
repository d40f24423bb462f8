/-
  DERIVED. GIVEN WITH THE SEED: THE CARDS: each row of YtcpihdljjckecaaGreatDoorRows.lean that lists a variable, with what it lists TIED to the program's text (the seventh form; the later family's looks); each row that meets fmt, with fmt's text TOLD by the authors' own Lean function (tested against real Go, not proved from fmt's source: count such statements apart). THE CARD IS WHAT COUNTS. Prove the row's statement (the work); the ties are given (YtcpihdljjckecaaGreatDoorTie.lean); close each card by the builder's one call (the guide's Derived/Test/ToyasCard.lean, 'card_holds'). Laid BY PROGRAM, IN A SANDBOX (cutbox-door.mjs). By AI agents, Wed Nov 11 2026. No macro, syntax, notation, axiom, sorry.
-/
import Derived.Test.YtcpihdljjckecaaGreatDoorRows
import GoSem.ClaimSeven
namespace Go.Proofs.YtcpihdljjckecaaGreatDoor
namespace Rows

/-- THE TIED CARD OF 'bikesharelaw62.ConsoleParses'. -/
def consoleParsesCard : Claim7 := { stood := { row := consoleParsesRow, standIns := [], harness := (true, "ab405878de8d2bc41e81cc8fbaabf2d7441acb6b4e5b781636f47955a0336712"), looks := true }, kinds := [], alts := [], laidByText := true, laidKinds := [.pinned, .data, .sentinel, .sentinel, .data, .data, .data], laidTests := true, laidLooks := .later }
def ConsoleParsesCardSaid : Prop := Claim7.holds Tryz.pinned (.plain (OpenSpec.ofChange consoleParsesSpec)) consoleParsesCard

/-- THE TIED CARD OF 'bikesharelaw62.ConsolePrints'. -/
def consolePrintsCard : Claim7 := { stood := { row := consolePrintsRow, standIns := [], harness := (true, "ab405878de8d2bc41e81cc8fbaabf2d7441acb6b4e5b781636f47955a0336712"), looks := true }, kinds := [], alts := [], laidByText := true, laidKinds := [.data, .data, .data, .pinned, .data, .sentinel, .sentinel], laidTests := true, laidLooks := .later }
def ConsolePrintsCardSaid : Prop := Claim7.holds Tryz.pinned (.plain (OpenSpec.ofChange consolePrintsSpec)) consolePrintsCard

/-- THE TIED CARD OF 'bikesharelaw62.ConsoleBack'. -/
def consoleBackCard : Claim7 := { stood := { row := consoleBackRow, standIns := [], harness := (true, "ab405878de8d2bc41e81cc8fbaabf2d7441acb6b4e5b781636f47955a0336712"), looks := true }, kinds := [], alts := [], laidByText := true, laidKinds := [.pinned, .data, .sentinel, .sentinel, .data, .data, .data], laidTests := true, laidLooks := .later }
def ConsoleBackCardSaid : Prop := Claim7.holds Tryz.pinned (.plain (OpenSpec.ofChange consoleBackSpec)) consoleBackCard

/-- THE SECOND FORM's CARD OF 'bikesharelaw62.ConsoleParses'. -/
def consoleParsesUptoCard : Claim7 := { stood := { row := consoleParsesUptoRow, standIns := [], harness := (true, "ab405878de8d2bc41e81cc8fbaabf2d7441acb6b4e5b781636f47955a0336712"), looks := true }, kinds := [], alts := [], laidByText := true, laidKinds := [.pinned, .data, .sentinel, .sentinel, .data, .data, .data], laidTests := true, laidLooks := .later }
def ConsoleParsesUptoCardSaid : Prop := Claim7.holds Tryz.pinned (.plain (OpenSpec.upto consoleParsesSpec)) consoleParsesUptoCard

/-- THE SECOND FORM's CARD OF 'bikesharelaw62.ConsolePrints'. -/
def consolePrintsUptoCard : Claim7 := { stood := { row := consolePrintsUptoRow, standIns := [], harness := (true, "ab405878de8d2bc41e81cc8fbaabf2d7441acb6b4e5b781636f47955a0336712"), looks := true }, kinds := [], alts := [], laidByText := true, laidKinds := [.data, .data, .data, .pinned, .data, .sentinel, .sentinel], laidTests := true, laidLooks := .later }
def ConsolePrintsUptoCardSaid : Prop := Claim7.holds Tryz.pinned (.plain (OpenSpec.upto consolePrintsSpec)) consolePrintsUptoCard

/-- THE SECOND FORM's CARD OF 'bikesharelaw62.ConsoleBack'. -/
def consoleBackUptoCard : Claim7 := { stood := { row := consoleBackUptoRow, standIns := [], harness := (true, "ab405878de8d2bc41e81cc8fbaabf2d7441acb6b4e5b781636f47955a0336712"), looks := true }, kinds := [], alts := [], laidByText := true, laidKinds := [.pinned, .data, .sentinel, .sentinel, .data, .data, .data], laidTests := true, laidLooks := .later }
def ConsoleBackUptoCardSaid : Prop := Claim7.holds Tryz.pinned (.plain (OpenSpec.upto consoleBackSpec)) consoleBackUptoCard
end Rows
end Go.Proofs.YtcpihdljjckecaaGreatDoor
