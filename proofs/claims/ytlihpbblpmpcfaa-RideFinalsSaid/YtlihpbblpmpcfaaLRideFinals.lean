/-
  The row RideFinals: rides that ended before a horizon are the same if events from the horizon on are added. No conditions.
-/
import Derived.Test.YtlihpbblpmpcfaaRid9
import Derived.Test.YtlihpbblpmpcfaaRows
import Derived.Test.YtlihpbblpmpcfaaChecked
namespace Go.Proofs.Ytlihpbblpmpcfaa
open Go Go.RowKit Go.ChangeShapes Go.WideShapes Go.ChangeAt

set_option maxRecDepth 100000 in
theorem rideFinals_lifted (os : Os) (started : os.Started) (H : Type) (enc : TypeId × Value → H) :
    ReturnsInHanded {} Try.checked os 7 .any (Rows.rideFinalsSpec.pre6 enc Try.prog Try.f7 Rows.rideFinalsRow.domain false) (Rows.rideFinalsSpec.post enc Try.prog Try.f7 false true false false) := by
  refine returnsInHanded_of_change (C := Try.checked) (by kernel_rfl) started (by kernel_rfl) Try.func7
    (ChangeSpec.witness6 (enc := enc) (C := Try.checked) false ⟨#[], #[Cus.zFleet, .slice none 0 0, .slice none 0 0, .int .i64 0], []⟩ 8 (by kernel_rfl) (by kernel_rfl) (by kernel_rfl) (by kernel_rfl)) ?_
  intro W base args ds gs before hval0 hW _ _
  have hval : ∀ (j : Nat) t v, Try.f7.params[j]? = some t → args[j]? = some v → Value.okWide Try.prog W .any base t v := hval0
  have hW' := hW
  obtain ⟨p, q, hA0, hV, rfl, hfz, hnd⟩ := hW
  have hA : DataW.TrodAll enc Try.prog W 0 (fun _ => true) true Try.f7.params.toList args.toList ds p := hA0
  rw [Try.params7] at hA hval
  obtain ⟨v0, v1, v2, v3, d0, d1, d2, d3, p0, p1, p2, p3, rfl, _, _, h0, h1, h2, h3⟩ := trodAll_four hA
  have hv0 := hval 0 42 v0 rfl rfl
  have hv1 := hval 1 43 v1 rfl rfl
  have hv2 := hval 2 43 v2 rfl rfl
  have hv3 := hval 3 3 v3 rfl rfl
  obtain ⟨f, a, rfl, hf⟩ := Cus.open_fleet hv0 h0
  obtain ⟨A, n, c, xs, rfl, hx, hpl⟩ := Cus.open_evs hv1 h1
  obtain ⟨B, m, d, more, rfl, hy, hpl2⟩ := Cus.open_evs hv2 h2
  obtain ⟨hz, rfl, _⟩ := Cus.open_int hv3 h3
  refine (Rid.finalsLaw_w f a A n c xs B m d more hz W hf hx hpl hy hpl2).mono fun e W' he => ?_
  obtain ⟨rfl, hb⟩ := he
  exact ⟨_, rfl, E.row_post (tb := 4) (by kernel_rfl) (by kernel_rfl) rfl Try.underlying4 rfl (fun ds hd => match ds, hd with | [_, _, _, _], _ => rfl) hW' hb⟩

theorem rideFinals_holds : Rows.RideFinalsSaid :=
  OpenClaim.holds_of_wide 7 Try.f7 rfl rfl rfl rfl rfl rfl rfl ⟨rfl, rfl, rfl, rfl, rfl⟩ rfl rfl rfl rfl rfl (by kernel_rfl) Try.func7 (by kernel_rfl)
    (of_decide_eq_true (by kernel_rfl)) (by unfold Func.isWrapper; first | (rw [if_pos (by decide +kernel)]; kernel_rfl) | (rw [if_neg (by decide +kernel)]; exact ⟨rfl, rfl⟩))
    (fun os started H enc _ => rideFinals_lifted os started H enc)

end Go.Proofs.Ytlihpbblpmpcfaa
