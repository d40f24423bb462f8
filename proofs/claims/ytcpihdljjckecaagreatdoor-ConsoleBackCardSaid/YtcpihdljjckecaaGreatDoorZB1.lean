/- A closed fact of the row ConsoleBack. -/
import Derived.Test.YtcpihdljjckecaaGreatDoorRows
import Derived.Test.YtcpihdljjckecaaGreatDoorChecked
namespace Go.Proofs.YtcpihdljjckecaaGreatDoor
open Go
theorem consoleBack_q1 : (Rows.consoleBackRow.inPlace == Tryz.checked.prog.inPlace 5) = true := by kernel_rfl
end Go.Proofs.YtcpihdljjckecaaGreatDoor
