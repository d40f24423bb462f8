/- A closed fact of the row ConsoleBack. -/
import Derived.Test.YtcpihdljjckecaaGreatDoorRows
import Derived.Test.YtcpihdljjckecaaGreatDoorChecked
import Derived.JoinedOf
namespace Go.Proofs.YtcpihdljjckecaaGreatDoor
open Go
theorem consoleBack_q9 : (Rows.consoleBackRow.lifted == Tryz.checked.prog.liftsFinal) = true := by kernel_rfl
end Go.Proofs.YtcpihdljjckecaaGreatDoor
