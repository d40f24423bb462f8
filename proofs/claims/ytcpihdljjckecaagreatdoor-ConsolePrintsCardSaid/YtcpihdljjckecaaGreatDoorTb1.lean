/-
  Closed facts of the ties.
-/
import Derived.Test.YtcpihdljjckecaaGreatDoorTLb
namespace Go.Proofs.YtcpihdljjckecaaGreatDoor
open Go
theorem ti_bk : laid_b.map (fun x => Tryz.prog.kindOfLater x.1) = [LaidKind.data, LaidKind.data, LaidKind.data, LaidKind.data, LaidKind.sentinel, LaidKind.sentinel].map some := by kernel_rfl
end Go.Proofs.YtcpihdljjckecaaGreatDoor
