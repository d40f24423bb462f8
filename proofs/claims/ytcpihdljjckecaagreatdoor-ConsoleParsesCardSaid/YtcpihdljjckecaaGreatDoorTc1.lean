/-
  Closed facts of the ties.
-/
import Derived.Test.YtcpihdljjckecaaGreatDoorRows
import Derived.LaidByTextLater
namespace Go.Proofs.YtcpihdljjckecaaGreatDoor
open Go
theorem ti_w : Tryz.prog.worded (varsWordLater true) = true := by kernel_rfl
theorem ti_v : Tryz.prog.worded (varsWordLater !true) = false := by kernel_rfl
theorem ti_o : Tryz.prog.worded rootWordLater = true := by kernel_rfl
theorem ti_g : (Tryz.prog.funcNamed "gosem.cut.vars").isSome = true := by kernel_rfl
end Go.Proofs.YtcpihdljjckecaaGreatDoor
