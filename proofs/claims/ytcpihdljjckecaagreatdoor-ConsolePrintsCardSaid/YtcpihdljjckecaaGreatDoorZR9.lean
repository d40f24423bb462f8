/- A closed fact of the row ConsolePrints. -/
import Derived.Test.YtcpihdljjckecaaGreatDoorRows
import Derived.Test.YtcpihdljjckecaaGreatDoorChecked
import Derived.JoinedOf
namespace Go.Proofs.YtcpihdljjckecaaGreatDoor
open Go
theorem consolePrints_q9 : (Rows.consolePrintsRow.lifted == Tryz.checked.prog.liftsFinal) = true := by kernel_rfl
end Go.Proofs.YtcpihdljjckecaaGreatDoor
