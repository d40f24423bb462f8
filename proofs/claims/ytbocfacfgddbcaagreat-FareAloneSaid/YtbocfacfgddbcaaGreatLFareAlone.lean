/-
  The row FareAlone: a fare does not depend on other riders nor on later rides. No conditions.
-/
import Derived.Test.YtbocfacfgddbcaaGreatFarWm
import Derived.Test.YtbocfacfgddbcaaGreatFarT
import Derived.Test.YtbocfacfgddbcaaGreatRows
import Derived.Test.YtbocfacfgddbcaaGreatChecked
namespace Go.Proofs.YtbocfacfgddbcaaGreat
open Go Go.RowKit Go.ChangeShapes Go.WideShapes Go.ChangeAt

set_option maxRecDepth 100000 in
theorem fareAlone_lifted (os : Os) (started : os.Started) (H : Type) (enc : TypeId × Value → H) :
    ReturnsInHanded {} Tryz.checked os 6 .any (Rows.fareAloneSpec.pre6 enc Tryz.prog Tryz.f6 Rows.fareAloneRow.domain false) (Rows.fareAloneSpec.post enc Tryz.prog Tryz.f6 false true false false) := by
  refine returnsInHanded_of_change (C := Tryz.checked) (by kernel_rfl) started (by kernel_rfl) Tryz.func6
    (ChangeSpec.witness6 (enc := enc) (C := Tryz.checked) false ⟨#[], #[Far.zCity, .slice none 0 0, .int .u8 0], []⟩ 8 (by kernel_rfl) (by kernel_rfl) (by kernel_rfl) (by kernel_rfl)) ?_
  intro W base args ds gs before hval0 hW _ _
  have hval : ∀ (j : Nat) t v, Tryz.f6.params[j]? = some t → args[j]? = some v → Value.okWide Tryz.prog W .any base t v := hval0
  have hW' := hW
  obtain ⟨p, q, hA0, hV, rfl, hfz, hnd⟩ := hW
  have hA : DataW.TrodAll enc Tryz.prog W 0 (fun _ => true) true Tryz.f6.params.toList args.toList ds p := hA0
  rw [Tryz.params6] at hA hval
  obtain ⟨v0, v1, v2, d0, d1, d2, p0, p1, p2, rfl, _, _, h0, h1, h2⟩ := trodAll_three hA
  have hv0 := hval 0 30 v0 rfl rfl
  have hv1 := hval 1 36 v1 rfl rfl
  have hv2 := hval 2 5 v2 rfl rfl
  obtain ⟨f, fa, p, a, rfl, hf, hp⟩ := Far.open_city hv0 h0
  obtain ⟨A, n, c, rs, rfl, hr, hpl⟩ := Far.open_rides hv1 h1
  obtain ⟨q, rfl, hq0, hq1⟩ := Far.open_u8 hv2 h2
  refine (Far.aloneLaw_w f fa p a A n c rs q W hf hp hr hpl ⟨hq0, hq1⟩).mono fun e W' he => ?_
  obtain ⟨rfl, hb⟩ := he
  exact ⟨_, rfl, E.row_post (tb := 4) (by kernel_rfl) (by kernel_rfl) rfl Tryz.underlying4 rfl (fun ds hd => match ds, hd with | [_, _, _], _ => rfl) hW' hb⟩

theorem fareAlone_holds : Rows.FareAloneSaid :=
  OpenClaim.holds_of_wide 6 Tryz.f6 rfl rfl rfl rfl rfl rfl rfl ⟨rfl, rfl, rfl, rfl, rfl⟩ rfl rfl rfl rfl rfl (by kernel_rfl) Tryz.func6 (by kernel_rfl)
    (of_decide_eq_true (by kernel_rfl)) (by unfold Func.isWrapper; first | (rw [if_pos (by decide +kernel)]; kernel_rfl) | (rw [if_neg (by decide +kernel)]; exact ⟨rfl, rfl⟩))
    (fun os started H enc _ => fareAlone_lifted os started H enc)

end Go.Proofs.YtbocfacfgddbcaaGreat
