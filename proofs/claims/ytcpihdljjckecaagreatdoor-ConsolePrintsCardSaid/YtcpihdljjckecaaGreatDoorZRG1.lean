/- A closed fact of the card ConsolePrints. -/
import Derived.Test.YtcpihdljjckecaaGreatDoorRows
import Derived.Test.YtcpihdljjckecaaGreatDoorChecked
import Derived.SevenTiedAt
namespace Go.Proofs.YtcpihdljjckecaaGreatDoor
open Go
theorem consolePrints_g1 : Rows.consolePrintsRow.wfByText (OpenSpec.ofChange Rows.consolePrintsSpec) = true := by kernel_rfl
end Go.Proofs.YtcpihdljjckecaaGreatDoor
