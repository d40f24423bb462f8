/- A closed fact of the rows. -/
import Derived.Test.YtcpihdljjckecaaGreatDoorRows
import Derived.Test.YtcpihdljjckecaaGreatDoorChecked
import Derived.JoinedOf
namespace Go.Proofs.YtcpihdljjckecaaGreatDoor
open Go
theorem z8 : Tryz.checked.prog.mayEnter = true := by kernel_rfl
end Go.Proofs.YtcpihdljjckecaaGreatDoor
