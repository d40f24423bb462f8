/- The row ConsoleParses. Conditions: the listed package variables read as laid. -/
import Derived.Test.YtcpihdljjckecaaGreatDoorZPL
import Derived.Test.YtcpihdljjckecaaGreatDoorZPF
namespace Go.Proofs.YtcpihdljjckecaaGreatDoor
open Go Go.RowKit Go.ChangeShapes Go.WideShapes Go.ChangeAt
theorem consoleParses_holds : Rows.ConsoleParsesSaid :=
  OpenClaim.holds_of_wide 3 Tryz.f3 rfl rfl rfl rfl rfl rfl rfl ⟨rfl, rfl, rfl, rfl, rfl⟩ rfl rfl rfl rfl rfl (by kernel_rfl) Tryz.func3 consoleParses_facts
    (of_decide_eq_true (by kernel_rfl)) (by unfold Func.isWrapper; first | (rw [if_pos (by decide +kernel)]; kernel_rfl) | (rw [if_neg (by decide +kernel)]; exact ⟨rfl, rfl⟩))
    (fun os started H enc _ => consoleParses_lifted os started H enc)
end Go.Proofs.YtcpihdljjckecaaGreatDoor
