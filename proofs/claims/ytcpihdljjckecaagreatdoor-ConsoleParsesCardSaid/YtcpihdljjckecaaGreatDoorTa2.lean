/-
  Closed facts of the ties.
-/
import Derived.Test.YtcpihdljjckecaaGreatDoorTLa
namespace Go.Proofs.YtcpihdljjckecaaGreatDoor
open Go
theorem ti_an : varsNamedLaterB Tryz.prog (varsId Tryz.prog) laid_a = true := by kernel_rfl
theorem ti_ap : (laid_a.all fun x => x.2.handleName?.isNone) = true := by kernel_rfl
end Go.Proofs.YtcpihdljjckecaaGreatDoor
