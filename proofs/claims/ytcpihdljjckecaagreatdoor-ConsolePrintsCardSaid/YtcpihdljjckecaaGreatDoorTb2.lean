/-
  Closed facts of the ties.
-/
import Derived.Test.YtcpihdljjckecaaGreatDoorTLb
namespace Go.Proofs.YtcpihdljjckecaaGreatDoor
open Go
theorem ti_bn : varsNamedLaterB Tryz.prog (varsId Tryz.prog) laid_b = true := by kernel_rfl
theorem ti_bp : (laid_b.all fun x => x.2.handleName?.isNone) = true := by kernel_rfl
end Go.Proofs.YtcpihdljjckecaaGreatDoor
