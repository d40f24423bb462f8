/- A closed fact of the rows. -/
import Derived.Test.YtcpihdljjckecaaGreatDoorRows
import Derived.Test.YtcpihdljjckecaaGreatDoorChecked
import Derived.JoinedOf
namespace Go.Proofs.YtcpihdljjckecaaGreatDoor
open Go
theorem z6 : mapsRowed Tryz.checked.prog = true := by kernel_rfl
end Go.Proofs.YtcpihdljjckecaaGreatDoor
