/- A closed fact of the row ConsoleParses. -/
import Derived.Test.YtcpihdljjckecaaGreatDoorRows
import Derived.Test.YtcpihdljjckecaaGreatDoorChecked
import Derived.JoinedOf
namespace Go.Proofs.YtcpihdljjckecaaGreatDoor
open Go
theorem consoleParses_q9 : (Rows.consoleParsesRow.lifted == Tryz.checked.prog.liftsFinal) = true := by kernel_rfl
end Go.Proofs.YtcpihdljjckecaaGreatDoor
