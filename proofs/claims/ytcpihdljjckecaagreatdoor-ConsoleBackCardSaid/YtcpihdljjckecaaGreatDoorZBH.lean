/- The row ConsoleBack. Conditions: the listed package variables read as laid. -/
import Derived.Test.YtcpihdljjckecaaGreatDoorZBL
import Derived.Test.YtcpihdljjckecaaGreatDoorZBF
namespace Go.Proofs.YtcpihdljjckecaaGreatDoor
open Go Go.RowKit Go.ChangeShapes Go.WideShapes Go.ChangeAt
theorem consoleBack_holds : Rows.ConsoleBackSaid :=
  OpenClaim.holds_of_wide 5 Tryz.f5 rfl rfl rfl rfl rfl rfl rfl ⟨rfl, rfl, rfl, rfl, rfl⟩ rfl rfl rfl rfl rfl (by kernel_rfl) Tryz.func5 consoleBack_facts
    (of_decide_eq_true (by kernel_rfl)) (by unfold Func.isWrapper; first | (rw [if_pos (by decide +kernel)]; kernel_rfl) | (rw [if_neg (by decide +kernel)]; exact ⟨rfl, rfl⟩))
    (fun os started H enc _ => consoleBack_lifted os started H enc)
end Go.Proofs.YtcpihdljjckecaaGreatDoor
