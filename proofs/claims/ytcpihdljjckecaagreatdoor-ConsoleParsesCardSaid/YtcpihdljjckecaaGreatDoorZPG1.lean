/- A closed fact of the card ConsoleParses. -/
import Derived.Test.YtcpihdljjckecaaGreatDoorRows
import Derived.Test.YtcpihdljjckecaaGreatDoorChecked
import Derived.SevenTiedAt
namespace Go.Proofs.YtcpihdljjckecaaGreatDoor
open Go
theorem consoleParses_g1 : Rows.consoleParsesRow.wfByText (OpenSpec.ofChange Rows.consoleParsesSpec) = true := by kernel_rfl
end Go.Proofs.YtcpihdljjckecaaGreatDoor
