/-
  The row FareChecks: Check returns the specified error. No conditions.
-/
import Derived.Test.YtbocfacfgddbcaaGreatFarU
import Derived.Test.YtbocfacfgddbcaaGreatFarT
import Derived.Test.YtbocfacfgddbcaaGreatRows
import Derived.Test.YtbocfacfgddbcaaGreatChecked
namespace Go.Proofs.YtbocfacfgddbcaaGreat
open Go Go.RowKit Go.ChangeShapes Go.WideShapes Go.ChangeAt

set_option maxRecDepth 100000 in
theorem fareChecks_lifted (os : Os) (started : os.Started) (H : Type) (enc : TypeId × Value → H) :
    ReturnsInHanded {} Tryz.checked os 3 .any (Rows.fareChecksSpec.pre6 enc Tryz.prog Tryz.f3 Rows.fareChecksRow.domain false) (Rows.fareChecksSpec.post enc Tryz.prog Tryz.f3 false true false false) := by
  refine returnsInHanded_of_change (C := Tryz.checked) (by kernel_rfl) started (by kernel_rfl) Tryz.func3
    (ChangeSpec.witness6 (enc := enc) (C := Tryz.checked) false ⟨#[], #[Far.zCity], []⟩ 8 (by kernel_rfl) (by kernel_rfl) (by kernel_rfl) (by kernel_rfl)) ?_
  intro W base args ds gs before hval0 hW _ _
  have hval : ∀ (j : Nat) t v, Tryz.f3.params[j]? = some t → args[j]? = some v → Value.okWide Tryz.prog W .any base t v := hval0
  have hW' := hW
  obtain ⟨p, q, hA0, hV, rfl, hfz, hnd⟩ := hW
  have hA : DataW.TrodAll enc Tryz.prog W 0 (fun _ => true) true Tryz.f3.params.toList args.toList ds p := hA0
  rw [Tryz.params3] at hA hval
  obtain ⟨v0, d0, rfl, _, h0⟩ := trodAll_one hA
  have hv0 := hval 0 30 v0 rfl rfl
  obtain ⟨f, fa, p, a, rfl, hf, hp⟩ := Far.open_city hv0 h0
  refine (Far.checksLaw_w f fa p a W hf hp).mono fun e W' he => ?_
  obtain ⟨rfl, hb⟩ := he
  exact ⟨_, rfl, E.row_post (tb := 4) (by kernel_rfl) (by kernel_rfl) rfl Tryz.underlying4 rfl (fun ds hd => match ds, hd with | [_], _ => rfl) hW' hb⟩

theorem fareChecks_holds : Rows.FareChecksSaid :=
  OpenClaim.holds_of_wide 3 Tryz.f3 rfl rfl rfl rfl rfl rfl rfl ⟨rfl, rfl, rfl, rfl, rfl⟩ rfl rfl rfl rfl rfl (by kernel_rfl) Tryz.func3 (by kernel_rfl)
    (of_decide_eq_true (by kernel_rfl)) (by unfold Func.isWrapper; first | (rw [if_pos (by decide +kernel)]; kernel_rfl) | (rw [if_neg (by decide +kernel)]; exact ⟨rfl, rfl⟩))
    (fun os started H enc _ => fareChecks_lifted os started H enc)

end Go.Proofs.YtbocfacfgddbcaaGreat
