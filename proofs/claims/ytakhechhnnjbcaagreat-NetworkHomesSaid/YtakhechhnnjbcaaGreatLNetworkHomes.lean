/-
  The row NetworkHomes: Home, Events and Waiting of a new network. No conditions.
-/
import Derived.Test.YtakhechhnnjbcaaGreatNetH
import Derived.Test.YtakhechhnnjbcaaGreatRows
import Derived.Test.YtakhechhnnjbcaaGreatChecked
namespace Go.Proofs.YtakhechhnnjbcaaGreat
open Go Go.RowKit Go.ChangeShapes Go.WideShapes Go.ChangeAt

set_option maxRecDepth 100000 in
theorem networkHomes_lifted (os : Os) (started : os.Started) (H : Type) (enc : TypeId × Value → H) :
    ReturnsInHanded {} Tryz.checked os 3 .any (Rows.networkHomesSpec.pre6 enc Tryz.prog Tryz.f3 Rows.networkHomesRow.domain false) (Rows.networkHomesSpec.post enc Tryz.prog Tryz.f3 false true false false) := by
  refine returnsInHanded_of_change (C := Tryz.checked) (by kernel_rfl) started (by kernel_rfl) Tryz.func3
    (ChangeSpec.witness6 (enc := enc) (C := Tryz.checked) false ⟨#[], #[Hom.zCity, .int .i64 0, .int .i64 0], []⟩ 8 (by kernel_rfl) (by kernel_rfl) (by kernel_rfl) (by kernel_rfl)) ?_
  intro W base args ds gs before hval0 hW _ _
  have hval : ∀ (j : Nat) t v, Tryz.f3.params[j]? = some t → args[j]? = some v → Value.okWide Tryz.prog W .any base t v := hval0
  have hW' := hW
  obtain ⟨p, q, hA0, hV, rfl, hfz, hnd⟩ := hW
  have hA : DataW.TrodAll enc Tryz.prog W 0 (fun _ => true) true Tryz.f3.params.toList args.toList ds p := hA0
  rw [Tryz.params3] at hA hval
  obtain ⟨v0, v1, v2, d0, d1, d2, p0, p1, p2, rfl, _, _, h0, h1, h2⟩ := trodAll_three hA
  have hv0 := hval 0 30 v0 rfl rfl
  have hv1 := hval 1 3 v1 rfl rfl
  have hv2 := hval 2 3 v2 rfl rfl
  obtain ⟨f, fa, p, a, k, rfl, hf, hp⟩ := Hom.open_city hv0 h0
  obtain ⟨i, rfl, _⟩ := open_int Tryz.underlying3 hv1 h1
  obtain ⟨j, rfl, _⟩ := open_int Tryz.underlying3 hv2 h2
  refine (Hom.homesLaw_w f fa p a k i j W hf hp).mono fun e W' he => ?_
  obtain ⟨rfl, hb⟩ := he
  exact ⟨_, rfl, E.row_post (tb := 4) (by kernel_rfl) (by kernel_rfl) rfl Tryz.underlying4 rfl (fun ds hd => match ds, hd with | [_, _, _], _ => rfl) hW' hb⟩

theorem networkHomes_q1 : (Rows.networkHomesRow.inPlace == Tryz.checked.prog.inPlace 3) = true := by kernel_rfl
theorem networkHomes_q2 : Tryz.checked.prog.unfollowed 3 = true := by kernel_rfl
theorem networkHomes_q3 : (Rows.networkHomesRow.recurses == Tryz.checked.prog.recurses 3) = true := by
  unfold Program.recurses
  rw [networkHomes_q2]
  rfl
theorem networkHomes_q4 : (Rows.networkHomesRow.named == Tryz.checked.prog.varsNamed 3) = true := by kernel_rfl
theorem networkHomes_facts : joinedFacts Tryz.checked.prog 3 Tryz.f3 Rows.networkHomesSpec Rows.networkHomesRow = true := by
  unfold joinedFacts
  rw [networkHomes_q1, networkHomes_q2, networkHomes_q3, networkHomes_q4]
  kernel_rfl
theorem networkHomes_holds : Rows.NetworkHomesSaid :=
  OpenClaim.holds_of_wide 3 Tryz.f3 rfl rfl rfl rfl rfl rfl rfl ⟨rfl, rfl, rfl, rfl, rfl⟩ rfl rfl rfl rfl rfl (by kernel_rfl) Tryz.func3 networkHomes_facts
    (of_decide_eq_true (by kernel_rfl)) (by unfold Func.isWrapper; first | (rw [if_pos (by decide +kernel)]; kernel_rfl) | (rw [if_neg (by decide +kernel)]; exact ⟨rfl, rfl⟩))
    (fun os started H enc _ => networkHomes_lifted os started H enc)

end Go.Proofs.YtakhechhnnjbcaaGreat
