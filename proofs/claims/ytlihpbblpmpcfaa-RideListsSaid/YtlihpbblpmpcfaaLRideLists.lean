/-
  The row RideLists: Find, Of and Final are the reference's. No conditions.
-/
import Derived.Test.YtlihpbblpmpcfaaRid4
import Derived.Test.YtlihpbblpmpcfaaRows
import Derived.Test.YtlihpbblpmpcfaaChecked
namespace Go.Proofs.Ytlihpbblpmpcfaa
open Go Go.RowKit Go.ChangeShapes Go.WideShapes Go.ChangeAt

set_option maxRecDepth 100000 in
theorem rideLists_lifted (os : Os) (started : os.Started) (H : Type) (enc : TypeId × Value → H) :
    ReturnsInHanded {} Try.checked os 4 .any (Rows.rideListsSpec.pre6 enc Try.prog Try.f4 Rows.rideListsRow.domain false) (Rows.rideListsSpec.post enc Try.prog Try.f4 false true false false) := by
  refine returnsInHanded_of_change (C := Try.checked) (by kernel_rfl) started (by kernel_rfl) Try.func4
    (ChangeSpec.witness6 (enc := enc) (C := Try.checked) false ⟨#[], #[.slice none 0 0, .int .i64 0, .int .i64 0, .int .i64 0], []⟩ 8 (by kernel_rfl) (by kernel_rfl) (by kernel_rfl) (by kernel_rfl)) ?_
  intro W base args ds gs before hval0 hW _ _
  have hval : ∀ (j : Nat) t v, Try.f4.params[j]? = some t → args[j]? = some v → Value.okWide Try.prog W .any base t v := hval0
  have hW' := hW
  obtain ⟨p, q, hA0, hV, rfl, hfz, hnd⟩ := hW
  have hA : DataW.TrodAll enc Try.prog W 0 (fun _ => true) true Try.f4.params.toList args.toList ds p := hA0
  rw [Try.params4] at hA hval
  obtain ⟨v0, v1, v2, v3, d0, d1, d2, d3, p0, p1, p2, p3, rfl, _, _, h0, h1, h2, h3⟩ := trodAll_four hA
  have hv0 := hval 0 32 v0 rfl rfl
  have hv1 := hval 1 3 v1 rfl rfl
  have hv2 := hval 2 3 v2 rfl rfl
  have hv3 := hval 3 3 v3 rfl rfl
  obtain ⟨A, n, c, xs, rfl, hx⟩ := Rid.open_rides hv0 h0
  obtain ⟨id, rfl, _⟩ := Cus.open_int hv1 h1
  obtain ⟨rider, rfl, _⟩ := Cus.open_int hv2 h2
  obtain ⟨hor, rfl, _⟩ := Cus.open_int hv3 h3
  refine (Rid.listsLaw_w A n c xs id rider hor W hx).mono fun e W' he => ?_
  obtain ⟨rfl, hb⟩ := he
  exact ⟨_, rfl, E.row_post (tb := 4) (by kernel_rfl) (by kernel_rfl) rfl Try.underlying4 rfl (fun ds hd => match ds, hd with | [_, _, _, _], _ => rfl) hW' hb⟩

theorem rideLists_holds : Rows.RideListsSaid :=
  OpenClaim.holds_of_wide 4 Try.f4 rfl rfl rfl rfl rfl rfl rfl ⟨rfl, rfl, rfl, rfl, rfl⟩ rfl rfl rfl rfl rfl (by kernel_rfl) Try.func4 (by kernel_rfl)
    (of_decide_eq_true (by kernel_rfl)) (by unfold Func.isWrapper; first | (rw [if_pos (by decide +kernel)]; kernel_rfl) | (rw [if_neg (by decide +kernel)]; exact ⟨rfl, rfl⟩))
    (fun os started H enc _ => rideLists_lifted os started H enc)

end Go.Proofs.Ytlihpbblpmpcfaa
