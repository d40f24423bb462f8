/-
  The row RideValid: each ride is right, and there is one for each start. No conditions.
-/
import Derived.Test.YtlihpbblpmpcfaaRid7
import Derived.Test.YtlihpbblpmpcfaaRows
import Derived.Test.YtlihpbblpmpcfaaChecked
namespace Go.Proofs.Ytlihpbblpmpcfaa
open Go Go.RowKit Go.ChangeShapes Go.WideShapes Go.ChangeAt

set_option maxRecDepth 100000 in
theorem rideValid_lifted (os : Os) (started : os.Started) (H : Type) (enc : TypeId × Value → H) :
    ReturnsInHanded {} Try.checked os 5 .any (Rows.rideValidSpec.pre6 enc Try.prog Try.f5 Rows.rideValidRow.domain false) (Rows.rideValidSpec.post enc Try.prog Try.f5 false true false false) := by
  refine returnsInHanded_of_change (C := Try.checked) (by kernel_rfl) started (by kernel_rfl) Try.func5
    (ChangeSpec.witness6 (enc := enc) (C := Try.checked) false ⟨#[], #[Cus.zFleet, .slice none 0 0], []⟩ 8 (by kernel_rfl) (by kernel_rfl) (by kernel_rfl) (by kernel_rfl)) ?_
  intro W base args ds gs before hval0 hW _ _
  have hval : ∀ (j : Nat) t v, Try.f5.params[j]? = some t → args[j]? = some v → Value.okWide Try.prog W .any base t v := hval0
  have hW' := hW
  obtain ⟨p, q, hA0, hV, rfl, hfz, hnd⟩ := hW
  have hA : DataW.TrodAll enc Try.prog W 0 (fun _ => true) true Try.f5.params.toList args.toList ds p := hA0
  rw [Try.params5] at hA hval
  obtain ⟨v0, v1, d0, d1, p0, p1, rfl, _, _, h0, h1⟩ := trodAll_two hA
  have hv0 := hval 0 42 v0 rfl rfl
  have hv1 := hval 1 43 v1 rfl rfl
  obtain ⟨f, a, rfl, hf⟩ := Cus.open_fleet hv0 h0
  obtain ⟨A, n, c, xs, rfl, hx, hpl⟩ := Cus.open_evs hv1 h1
  refine (Rid.validLaw_w f a A n c xs W hf hx hpl).mono fun e W' he => ?_
  obtain ⟨rfl, hb⟩ := he
  exact ⟨_, rfl, E.row_post (tb := 4) (by kernel_rfl) (by kernel_rfl) rfl Try.underlying4 rfl (fun ds hd => match ds, hd with | [_, _], _ => rfl) hW' hb⟩

theorem rideValid_holds : Rows.RideValidSaid :=
  OpenClaim.holds_of_wide 5 Try.f5 rfl rfl rfl rfl rfl rfl rfl ⟨rfl, rfl, rfl, rfl, rfl⟩ rfl rfl rfl rfl rfl (by kernel_rfl) Try.func5 (by kernel_rfl)
    (of_decide_eq_true (by kernel_rfl)) (by unfold Func.isWrapper; first | (rw [if_pos (by decide +kernel)]; kernel_rfl) | (rw [if_neg (by decide +kernel)]; exact ⟨rfl, rfl⟩))
    (fun os started H enc _ => rideValid_lifted os started H enc)

end Go.Proofs.Ytlihpbblpmpcfaa
