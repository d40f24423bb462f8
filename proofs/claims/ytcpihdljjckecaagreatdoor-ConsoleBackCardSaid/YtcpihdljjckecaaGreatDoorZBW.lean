/- A world that meets the conditions of the row ConsoleBack. -/
import Derived.Test.YtcpihdljjckecaaGreatDoorConG
import Derived.Test.YtcpihdljjckecaaGreatDoorChecked
namespace Go.Proofs.YtcpihdljjckecaaGreatDoor
open Go
open Go.RowKit Go.ChangeShapes Go.WideShapes
noncomputable def consoleBack_w0 (os : Os) : World := World.laidAll Tryz.prog os Rows.consoleBackRow.laid
theorem consoleBack_wa (os : Os) : ((consoleBack_w0 os).forCall (fun _ _ => 0) ⟨#[], #[Con.zArg, .string ⟨#[]⟩], []⟩).Shaped Tryz.checked.prog := World.shaped_of_ZipB (by kernel_rfl) (by kernel_rfl)
theorem consoleBack_wb (os : Os) : Input.okWideB Tryz.checked.prog ((consoleBack_w0 os).forCall (fun _ _ => 0) ⟨#[], #[Con.zArg, .string ⟨#[]⟩], []⟩) 5 ⟨#[], #[Con.zArg, .string ⟨#[]⟩], []⟩ = true := by kernel_rfl
theorem consoleBack_wc (os : Os) : laidMetH Tryz.prog Rows.consoleBackRow.laid ((consoleBack_w0 os).forCall (fun _ _ => 0) ⟨#[], #[Con.zArg, .string ⟨#[]⟩], []⟩).memory := by
  rw [MakeChecks.laidMetH_plain _ _ _ (by kernel_rfl)]; exact laidMet_laidAll _ (by kernel_rfl) (by kernel_rfl)
end Go.Proofs.YtcpihdljjckecaaGreatDoor
