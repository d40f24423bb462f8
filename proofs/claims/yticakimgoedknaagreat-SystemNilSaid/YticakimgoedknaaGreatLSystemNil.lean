/-
  The row SystemNil: a nil system performs no acts and has no books. No conditions.
-/
import Derived.Test.YticakimgoedknaaGreatLSystemNilQL
import Derived.Test.YticakimgoedknaaGreatLSystemNilQF
namespace Go.Proofs.YticakimgoedknaaGreat
open Go Go.RowKit Go.ChangeShapes Go.WideShapes Go.ChangeAt
theorem systemNil_holds : Rows.SystemNilSaid :=
  OpenClaim.holds_of_wide 4 Tryz.f4 rfl rfl rfl rfl rfl rfl rfl ⟨rfl, rfl, rfl, rfl, rfl⟩ rfl rfl rfl rfl rfl (by kernel_rfl) Tryz.func4 systemNil_facts
    (of_decide_eq_true (by kernel_rfl)) (by unfold Func.isWrapper; first | (rw [if_pos (by decide +kernel)]; kernel_rfl) | (rw [if_neg (by decide +kernel)]; exact ⟨rfl, rfl⟩))
    (fun os started H enc _ => systemNil_lifted os started H enc)

end Go.Proofs.YticakimgoedknaaGreat
