/-
  Closed facts of the ties.
-/
import Derived.Test.YtcpihdljjckecaaGreatDoorTLb
namespace Go.Proofs.YtcpihdljjckecaaGreatDoor
open Go
theorem ti_br : ∀ os tape, (DataW.laidRun Tryz.prog (varsWorld Tryz.prog 400 (varsId Tryz.prog) os tape).memory 8 (laid_b.map (·.1))).map (·.1) = some laid_b := fun _ _ => by kernel_rfl
end Go.Proofs.YtcpihdljjckecaaGreatDoor
