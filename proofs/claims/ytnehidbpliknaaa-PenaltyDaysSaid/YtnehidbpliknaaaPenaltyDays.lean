/-
  The row PenaltyDays.
-/
import Derived.Test.YtnehidbpliknaaaPq
import Derived.Test.YtnehidbpliknaaaPy
namespace Go.Proofs.Ytnehidbpliknaaa
open Go Go.RowKit Go.ChangeShapes Go.WideShapes Go.ChangeAt

set_option maxRecDepth 100000 in
theorem penaltyDays_lifted (os : Os) (started : os.Started) (H : Type) (enc : TypeId × Value → H) :
    ReturnsInHanded {} Try.checked os 8 .any (Rows.penaltyDaysSpec.pre6 enc Try.prog Try.f8 Rows.penaltyDaysRow.domain false) (Rows.penaltyDaysSpec.post enc Try.prog Try.f8 false true false false) := by
  refine returnsInHanded_of_change (C := Try.checked) (by kernel_rfl) started (by kernel_rfl) Try.func8
    (ChangeSpec.witness6 (enc := enc) (C := Try.checked) false ⟨#[], #[Pen.zPrices, Pen.zPlace, .int .i64 0], []⟩ 8 (by kernel_rfl) (by kernel_rfl) (by kernel_rfl) (by kernel_rfl)) ?_
  intro W base args ds gs before hval0 hW _ _
  have hval : ∀ (j : Nat) t v, Try.f8.params[j]? = some t → args[j]? = some v → Value.okWide Try.prog W .any base t v := hval0
  have hW' := hW
  obtain ⟨p, q, hA0, hV, rfl, hfz, hnd⟩ := hW
  have hA : DataW.TrodAll enc Try.prog W 0 (fun _ => true) true Try.f8.params.toList args.toList ds p := hA0
  rw [Try.params8] at hA hval
  obtain ⟨v0, v1, v2, d0, d1, d2, p0, p1, p2, rfl, _, _, h0, h1, h2⟩ := trodAll_three hA
  have hv0 := hval 0 26 v0 rfl rfl
  have hv1 := hval 1 40 v1 rfl rfl
  have hv2 := hval 2 3 v2 rfl rfl
  obtain ⟨p0, p1, p2, p3, p4, fA, fn, fc, fines, days, rfl, hf⟩ := Pen.open_prices2 hv0 h0
  obtain ⟨A, n, c, vs, i, rfl, hx⟩ := Pen.open_place hv1 h1
  obtain ⟨more, rfl, _, _, wm⟩ := open_int Try.underlying3 hv2 h2
  refine (Pen.days_w p0 p1 p2 p3 p4 fA fn fc fines days A n c vs i more W hf hx (E.wf64 wm).2).mono fun e W' he => ?_
  obtain ⟨rfl, hb⟩ := he
  exact ⟨_, rfl, E.row_post (tb := 4) (by kernel_rfl) (by kernel_rfl) rfl Try.underlying4 rfl (fun ds hd => match ds, hd with | [_, _, _], _ => rfl) hW' hb⟩

theorem penaltyDays_holds : Rows.PenaltyDaysSaid :=
  OpenClaim.holds_of_wide 8 Try.f8 rfl rfl rfl rfl rfl rfl rfl ⟨rfl, rfl, rfl, rfl, rfl⟩ rfl rfl rfl rfl rfl (by kernel_rfl) Try.func8 (by kernel_rfl)
    (of_decide_eq_true (by kernel_rfl)) (by unfold Func.isWrapper; first | (rw [if_pos (by decide +kernel)]; kernel_rfl) | (rw [if_neg (by decide +kernel)]; exact ⟨rfl, rfl⟩))
    (fun os started H enc _ => penaltyDays_lifted os started H enc)

end Go.Proofs.Ytnehidbpliknaaa
