/- A world that meets the conditions of the row ConsolePrints. -/
import Derived.Test.YtcpihdljjckecaaGreatDoorConG
import Derived.Test.YtcpihdljjckecaaGreatDoorChecked
namespace Go.Proofs.YtcpihdljjckecaaGreatDoor
open Go
open Go.RowKit Go.ChangeShapes Go.WideShapes
noncomputable def consolePrints_w0 (os : Os) : World := World.laidAll Tryz.prog os Rows.consolePrintsRow.laid
theorem consolePrints_wa (os : Os) : ((consolePrints_w0 os).forCall (fun _ _ => 0) ⟨#[], #[Con.zArg], []⟩).Shaped Tryz.checked.prog := World.shaped_of_ZipB (by kernel_rfl) (by kernel_rfl)
theorem consolePrints_wb (os : Os) : Input.okWideB Tryz.checked.prog ((consolePrints_w0 os).forCall (fun _ _ => 0) ⟨#[], #[Con.zArg], []⟩) 4 ⟨#[], #[Con.zArg], []⟩ = true := by kernel_rfl
theorem consolePrints_wc (os : Os) : laidMetH Tryz.prog Rows.consolePrintsRow.laid ((consolePrints_w0 os).forCall (fun _ _ => 0) ⟨#[], #[Con.zArg], []⟩).memory := by
  rw [MakeChecks.laidMetH_plain _ _ _ (by kernel_rfl)]; exact laidMet_laidAll _ (by kernel_rfl) (by kernel_rfl)
end Go.Proofs.YtcpihdljjckecaaGreatDoor
