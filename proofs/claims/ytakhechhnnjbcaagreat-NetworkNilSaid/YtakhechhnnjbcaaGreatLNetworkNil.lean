/-
  The row NetworkNil: a nil network performs no steps and has nothing. No conditions.
-/
import Derived.Test.YtakhechhnnjbcaaGreatNetN
import Derived.Test.YtakhechhnnjbcaaGreatNetEa
import Derived.OpenShut
import Derived.Test.YtakhechhnnjbcaaGreatRows
import Derived.Test.YtakhechhnnjbcaaGreatChecked
namespace Go.Proofs.Nil
open Go Go.RowKit Go.Proofs.E Go.ChangeShapes Go.WideShapes Go.ChangeAt
theorem cellsStep : Tryz.prog.cellsOf 60 = 12 := by kernel_rfl
set_option maxRecDepth 100000 in
theorem open_step {W : World} {base : Nat} {v : Value} (hv : Value.okWide Tryz.prog W .any base 60 v) : ∃ c0 c1 c2 c3 c4 c5 c6 c7 c8 c9 c10 c11 : Value, v = .agg #[c0, c1, c2, c3, c4, c5, c6, c7, c8, c9, c10, c11] := by
  obtain ⟨cs, rfl, hsz⟩ := okWide_struct Tryz.underlying60 hv
  rw [cellsStep] at hsz
  obtain ⟨l⟩ := cs
  match l, hsz with
  | [c0, c1, c2, c3, c4, c5, c6, c7, c8, c9, c10, c11], _ => exact ⟨_, _, _, _, _, _, _, _, _, _, _, _, rfl⟩
def zStep : Value := .agg #[.int .i64 0, .int .i64 0, .int .i64 0, .int .i64 0, .int .i64 0, .int .i64 0, .int .i64 0, .int .i64 0, .int .i64 0, .int .i64 0, .int .i64 0, .int .i64 0]
end Go.Proofs.Nil
namespace Go.Proofs.YtakhechhnnjbcaaGreat
open Go Go.RowKit Go.ChangeShapes Go.WideShapes Go.ChangeAt

set_option maxRecDepth 100000 in
theorem networkNil_lifted (os : Os) (started : os.Started) (H : Type) (enc : TypeId × Value → H) :
    ReturnsInHanded {} Tryz.checked os 8 .any (Rows.networkNilSpec.pre6 enc Tryz.prog Tryz.f8 Rows.networkNilRow.domain false) (Rows.networkNilSpec.post enc Tryz.prog Tryz.f8 false true false false) := by
  refine returnsInHanded_of_change (C := Tryz.checked) (by kernel_rfl) started (by kernel_rfl) Tryz.func8
    (ChangeSpec.witness6 (enc := enc) (C := Tryz.checked) false ⟨#[], #[Nil.zStep, .int .i64 0], []⟩ 8 (by kernel_rfl) (by kernel_rfl) (by kernel_rfl) (by kernel_rfl)) ?_
  intro W base args ds gs before hval0 hW _ _
  have hval : ∀ (j : Nat) t v, Tryz.f8.params[j]? = some t → args[j]? = some v → Value.okWide Tryz.prog W .any base t v := hval0
  have hW' := hW
  obtain ⟨p, q, hA0, hV, rfl, hfz, hnd⟩ := hW
  have hA : DataW.TrodAll enc Tryz.prog W 0 (fun _ => true) true Tryz.f8.params.toList args.toList ds p := hA0
  rw [Tryz.params8] at hA hval
  obtain ⟨v0, v1, d0, d1, p0, p1, rfl, _, _, h0, h1⟩ := trodAll_two hA
  have hv0 := hval 0 60 v0 rfl rfl
  have hv1 := hval 1 3 v1 rfl rfl
  obtain ⟨c0, c1, c2, c3, c4, c5, c6, c7, c8, c9, c10, c11, rfl⟩ := Nil.open_step hv0
  obtain ⟨i, rfl, _⟩ := open_int Tryz.underlying3 hv1 h1
  refine (Nil.nilLaw_w c0 c1 c2 c3 c4 c5 c6 c7 c8 c9 c10 c11 i W).mono fun e W' he => ?_
  obtain ⟨rfl, hb⟩ := he
  exact ⟨_, rfl, E.row_post (tb := 4) (by kernel_rfl) (by kernel_rfl) rfl Tryz.underlying4 rfl (fun ds hd => match ds, hd with | [_, _], _ => rfl) hW' hb⟩

theorem networkNil_q1 : (Rows.networkNilRow.inPlace == Tryz.checked.prog.inPlace 8) = true := by kernel_rfl
theorem networkNil_q2 : Tryz.checked.prog.unfollowed 8 = true := by kernel_rfl
theorem networkNil_q3 : (Rows.networkNilRow.recurses == Tryz.checked.prog.recurses 8) = true := by
  unfold Program.recurses
  rw [networkNil_q2]
  rfl
theorem networkNil_q4 : (Rows.networkNilRow.named == Tryz.checked.prog.varsNamed 8) = true := by kernel_rfl
theorem networkNil_facts : joinedFacts Tryz.checked.prog 8 Tryz.f8 Rows.networkNilSpec Rows.networkNilRow = true := by
  unfold joinedFacts
  rw [networkNil_q1, networkNil_q2, networkNil_q3, networkNil_q4]
  kernel_rfl
theorem networkNil_holds : Rows.NetworkNilSaid :=
  OpenClaim.holds_of_wide 8 Tryz.f8 rfl rfl rfl rfl rfl rfl rfl ⟨rfl, rfl, rfl, rfl, rfl⟩ rfl rfl rfl rfl rfl (by kernel_rfl) Tryz.func8 networkNil_facts
    (of_decide_eq_true (by kernel_rfl)) (by unfold Func.isWrapper; first | (rw [if_pos (by decide +kernel)]; kernel_rfl) | (rw [if_neg (by decide +kernel)]; exact ⟨rfl, rfl⟩))
    (fun os started H enc _ => networkNil_lifted os started H enc)

end Go.Proofs.YtakhechhnnjbcaaGreat
