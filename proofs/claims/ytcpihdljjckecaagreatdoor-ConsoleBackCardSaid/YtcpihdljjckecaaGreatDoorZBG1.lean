/- A closed fact of the card ConsoleBack. -/
import Derived.Test.YtcpihdljjckecaaGreatDoorRows
import Derived.Test.YtcpihdljjckecaaGreatDoorChecked
import Derived.SevenTiedAt
namespace Go.Proofs.YtcpihdljjckecaaGreatDoor
open Go
theorem consoleBack_g1 : Rows.consoleBackRow.wfByText (OpenSpec.ofChange Rows.consoleBackSpec) = true := by kernel_rfl
end Go.Proofs.YtcpihdljjckecaaGreatDoor
