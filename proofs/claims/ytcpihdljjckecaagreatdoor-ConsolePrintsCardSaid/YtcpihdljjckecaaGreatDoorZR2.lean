/- A closed fact of the row ConsolePrints. -/
import Derived.Test.YtcpihdljjckecaaGreatDoorRows
import Derived.Test.YtcpihdljjckecaaGreatDoorChecked
namespace Go.Proofs.YtcpihdljjckecaaGreatDoor
open Go
theorem consolePrints_q2 : Tryz.checked.prog.unfollowed 4 = true := by kernel_rfl
end Go.Proofs.YtcpihdljjckecaaGreatDoor
