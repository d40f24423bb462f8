/-
  Closed facts of the ties.
-/
import Derived.Test.YtcpihdljjckecaaGreatDoorTLa
namespace Go.Proofs.YtcpihdljjckecaaGreatDoor
open Go
theorem ti_ar : ∀ os tape, (DataW.laidRun Tryz.prog (varsWorld Tryz.prog 400 (varsId Tryz.prog) os tape).memory 8 (laid_a.map (·.1))).map (·.1) = some laid_a := fun _ _ => by kernel_rfl
end Go.Proofs.YtcpihdljjckecaaGreatDoor
