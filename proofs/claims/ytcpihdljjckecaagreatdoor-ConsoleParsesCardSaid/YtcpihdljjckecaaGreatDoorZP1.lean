/- A closed fact of the row ConsoleParses. -/
import Derived.Test.YtcpihdljjckecaaGreatDoorRows
import Derived.Test.YtcpihdljjckecaaGreatDoorChecked
namespace Go.Proofs.YtcpihdljjckecaaGreatDoor
open Go
theorem consoleParses_q1 : (Rows.consoleParsesRow.inPlace == Tryz.checked.prog.inPlace 3) = true := by kernel_rfl
end Go.Proofs.YtcpihdljjckecaaGreatDoor
