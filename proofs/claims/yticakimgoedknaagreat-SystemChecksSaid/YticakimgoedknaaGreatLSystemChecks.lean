/-
  The row SystemChecks: Check and New return the specified error. No conditions.
-/
import Derived.Test.YticakimgoedknaaGreatLSystemChecksQL
import Derived.Test.YticakimgoedknaaGreatLSystemChecksQF
namespace Go.Proofs.YticakimgoedknaaGreat
open Go Go.RowKit Go.ChangeShapes Go.WideShapes Go.ChangeAt
theorem systemChecks_holds : Rows.SystemChecksSaid :=
  OpenClaim.holds_of_wide 3 Tryz.f3 rfl rfl rfl rfl rfl rfl rfl ⟨rfl, rfl, rfl, rfl, rfl⟩ rfl rfl rfl rfl rfl (by kernel_rfl) Tryz.func3 systemChecks_facts
    (of_decide_eq_true (by kernel_rfl)) (by unfold Func.isWrapper; first | (rw [if_pos (by decide +kernel)]; kernel_rfl) | (rw [if_neg (by decide +kernel)]; exact ⟨rfl, rfl⟩))
    (fun os started H enc _ => systemChecks_lifted os started H enc)

end Go.Proofs.YticakimgoedknaaGreat
