/-
  Closed facts of the ties.
-/
import Derived.Test.YtcpihdljjckecaaGreatDoorTLa
namespace Go.Proofs.YtcpihdljjckecaaGreatDoor
open Go
theorem ti_ak : laid_a.map (fun x => Tryz.prog.kindOfLater x.1) = [LaidKind.data, LaidKind.sentinel, LaidKind.sentinel, LaidKind.data, LaidKind.data, LaidKind.data].map some := by kernel_rfl
end Go.Proofs.YtcpihdljjckecaaGreatDoor
