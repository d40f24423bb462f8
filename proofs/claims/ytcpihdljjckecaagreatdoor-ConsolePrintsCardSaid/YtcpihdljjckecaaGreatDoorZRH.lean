/- The row ConsolePrints. Conditions: the listed package variables read as laid. -/
import Derived.Test.YtcpihdljjckecaaGreatDoorZRL
import Derived.Test.YtcpihdljjckecaaGreatDoorZRF
namespace Go.Proofs.YtcpihdljjckecaaGreatDoor
open Go Go.RowKit Go.ChangeShapes Go.WideShapes Go.ChangeAt
theorem consolePrints_holds : Rows.ConsolePrintsSaid :=
  OpenClaim.holds_of_wide 4 Tryz.f4 rfl rfl rfl rfl rfl rfl rfl ⟨rfl, rfl, rfl, rfl, rfl⟩ rfl rfl rfl rfl rfl (by kernel_rfl) Tryz.func4 consolePrints_facts
    (of_decide_eq_true (by kernel_rfl)) (by unfold Func.isWrapper; first | (rw [if_pos (by decide +kernel)]; kernel_rfl) | (rw [if_neg (by decide +kernel)]; exact ⟨rfl, rfl⟩))
    (fun os started H enc _ => consolePrints_lifted os started H enc)
end Go.Proofs.YtcpihdljjckecaaGreatDoor
