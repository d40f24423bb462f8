/-
  Closed facts of the ties.
-/
import Derived.Test.YtcpihdljjckecaaGreatDoorRows
import Derived.LaidByTextLater
namespace Go.Proofs.YtcpihdljjckecaaGreatDoor
open Go
theorem ti_d : ∀ os tape, varsDone Tryz.prog 400 (varsId Tryz.prog) os tape = true := fun _ _ => by kernel_rfl
end Go.Proofs.YtcpihdljjckecaaGreatDoor
