/-
  The row FareAdds: Sum returns the specified sum or error. No conditions.
-/
import Derived.Test.YtbocfacfgddbcaaGreatFarU
import Derived.Test.YtbocfacfgddbcaaGreatFarT
import Derived.Test.YtbocfacfgddbcaaGreatRows
import Derived.Test.YtbocfacfgddbcaaGreatChecked
namespace Go.Proofs.YtbocfacfgddbcaaGreat
open Go Go.RowKit Go.ChangeShapes Go.WideShapes Go.ChangeAt

set_option maxRecDepth 100000 in
theorem fareAdds_lifted (os : Os) (started : os.Started) (H : Type) (enc : TypeId × Value → H) :
    ReturnsInHanded {} Tryz.checked os 9 .any (Rows.fareAddsSpec.pre6 enc Tryz.prog Tryz.f9 Rows.fareAddsRow.domain false) (Rows.fareAddsSpec.post enc Tryz.prog Tryz.f9 false true false false) := by
  refine returnsInHanded_of_change (C := Tryz.checked) (by kernel_rfl) started (by kernel_rfl) Tryz.func9
    (ChangeSpec.witness6 (enc := enc) (C := Tryz.checked) false ⟨#[], #[.slice none 0 0], []⟩ 8 (by kernel_rfl) (by kernel_rfl) (by kernel_rfl) (by kernel_rfl)) ?_
  intro W base args ds gs before hval0 hW _ _
  have hval : ∀ (j : Nat) t v, Tryz.f9.params[j]? = some t → args[j]? = some v → Value.okWide Tryz.prog W .any base t v := hval0
  have hW' := hW
  obtain ⟨p, q, hA0, hV, rfl, hfz, hnd⟩ := hW
  have hA : DataW.TrodAll enc Tryz.prog W 0 (fun _ => true) true Tryz.f9.params.toList args.toList ds p := hA0
  rw [Tryz.params9] at hA hval
  obtain ⟨v0, d0, rfl, _, h0⟩ := trodAll_one hA
  have hv0 := hval 0 42 v0 rfl rfl
  obtain ⟨A, n, c, l, rfl, hx⟩ := Far.open_its hv0 h0
  refine (Far.addsLaw_w A n c l W hx).mono fun e W' he => ?_
  obtain ⟨rfl, hb⟩ := he
  exact ⟨_, rfl, E.row_post (tb := 4) (by kernel_rfl) (by kernel_rfl) rfl Tryz.underlying4 rfl (fun ds hd => match ds, hd with | [_], _ => rfl) hW' hb⟩

theorem fareAdds_holds : Rows.FareAddsSaid :=
  OpenClaim.holds_of_wide 9 Tryz.f9 rfl rfl rfl rfl rfl rfl rfl ⟨rfl, rfl, rfl, rfl, rfl⟩ rfl rfl rfl rfl rfl (by kernel_rfl) Tryz.func9 (by kernel_rfl)
    (of_decide_eq_true (by kernel_rfl)) (by unfold Func.isWrapper; first | (rw [if_pos (by decide +kernel)]; kernel_rfl) | (rw [if_neg (by decide +kernel)]; exact ⟨rfl, rfl⟩))
    (fun os started H enc _ => fareAdds_lifted os started H enc)

end Go.Proofs.YtbocfacfgddbcaaGreat
