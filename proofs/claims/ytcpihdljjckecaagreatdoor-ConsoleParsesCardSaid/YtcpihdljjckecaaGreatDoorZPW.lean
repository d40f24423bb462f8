/- A world that meets the conditions of the row ConsoleParses. -/
import Derived.Test.YtcpihdljjckecaaGreatDoorConG
import Derived.Test.YtcpihdljjckecaaGreatDoorChecked
namespace Go.Proofs.YtcpihdljjckecaaGreatDoor
open Go
open Go.RowKit Go.ChangeShapes Go.WideShapes
noncomputable def consoleParses_w0 (os : Os) : World := World.laidAll Tryz.prog os Rows.consoleParsesRow.laid
theorem consoleParses_wa (os : Os) : ((consoleParses_w0 os).forCall (fun _ _ => 0) ⟨#[], #[.string ⟨#[]⟩], []⟩).Shaped Tryz.checked.prog := World.shaped_of_ZipB (by kernel_rfl) (by kernel_rfl)
theorem consoleParses_wb (os : Os) : Input.okWideB Tryz.checked.prog ((consoleParses_w0 os).forCall (fun _ _ => 0) ⟨#[], #[.string ⟨#[]⟩], []⟩) 3 ⟨#[], #[.string ⟨#[]⟩], []⟩ = true := by kernel_rfl
theorem consoleParses_wc (os : Os) : laidMetH Tryz.prog Rows.consoleParsesRow.laid ((consoleParses_w0 os).forCall (fun _ _ => 0) ⟨#[], #[.string ⟨#[]⟩], []⟩).memory := by
  rw [MakeChecks.laidMetH_plain _ _ _ (by kernel_rfl)]; exact laidMet_laidAll _ (by kernel_rfl) (by kernel_rfl)
end Go.Proofs.YtcpihdljjckecaaGreatDoor
