/- The walk lifted, for the row SystemNil. -/
import Derived.Test.YticakimgoedknaaGreatSysN
import Derived.Test.YticakimgoedknaaGreatSysEa
import Derived.OpenShut
import Derived.Test.YticakimgoedknaaGreatRows
import Derived.Test.YticakimgoedknaaGreatChecked
namespace Go.Proofs.Nil
open Go Go.RowKit Go.Proofs.E Go.ChangeShapes Go.WideShapes Go.ChangeAt
theorem cellsAct : Tryz.prog.cellsOf 57 = 20 := by kernel_rfl
set_option maxRecDepth 100000 in
theorem open_act {W : World} {base : Nat} {v : Value} (hv : Value.okWide Tryz.prog W .any base 57 v) : ∃ cs : List Value, v = .agg cs.toArray ∧ cs.length = 20 := by
  obtain ⟨cs, rfl, hsz⟩ := okWide_struct Tryz.underlying57 hv
  rw [cellsAct] at hsz
  exact ⟨cs.toList, by simp, by simpa using hsz⟩
def zAct : Value := .agg #[.int .i64 0, .int .i64 0, .int .i64 0, .int .i64 0, .int .i64 0, .int .i64 0, .int .i64 0, .int .i64 0, .int .i64 0, .int .i64 0, .int .i64 0, .int .i64 0, .int .i64 0, .int .i64 0, .int .i64 0, .int .i64 0, .int .i64 0, .int .i64 0, .int .i64 0, .int .i64 0]
end Go.Proofs.Nil
namespace Go.Proofs.YticakimgoedknaaGreat
open Go Go.RowKit Go.ChangeShapes Go.WideShapes Go.ChangeAt

set_option maxRecDepth 100000 in
theorem systemNil_lifted (os : Os) (started : os.Started) (H : Type) (enc : TypeId × Value → H) :
    ReturnsInHanded {} Tryz.checked os 4 .any (Rows.systemNilSpec.pre6 enc Tryz.prog Tryz.f4 Rows.systemNilRow.domain false) (Rows.systemNilSpec.post enc Tryz.prog Tryz.f4 false true false false) := by
  refine returnsInHanded_of_change (C := Tryz.checked) (by kernel_rfl) started (by kernel_rfl) Tryz.func4
    (ChangeSpec.witness6 (enc := enc) (C := Tryz.checked) false ⟨#[], #[Nil.zAct], []⟩ 8 (by kernel_rfl) (by kernel_rfl) (by kernel_rfl) (by kernel_rfl)) ?_
  intro W base args ds gs before hval0 hW _ _
  have hval : ∀ (j : Nat) t v, Tryz.f4.params[j]? = some t → args[j]? = some v → Value.okWide Tryz.prog W .any base t v := hval0
  have hW' := hW
  obtain ⟨p, q, hA0, hV, rfl, hfz, hnd⟩ := hW
  have hA : DataW.TrodAll enc Tryz.prog W 0 (fun _ => true) true Tryz.f4.params.toList args.toList ds p := hA0
  rw [Tryz.params4] at hA hval
  obtain ⟨v0, d0, rfl, _, h0⟩ := trodAll_one hA
  have hv0 := hval 0 57 v0 rfl rfl
  obtain ⟨l, rfl, hl⟩ := Nil.open_act hv0
  refine (Nil.nilLaw_w l hl W).mono fun e W' he => ?_
  obtain ⟨rfl, hb⟩ := he
  exact ⟨_, rfl, E.row_post (tb := 4) (by kernel_rfl) (by kernel_rfl) rfl Tryz.underlying4 rfl (fun ds hd => match ds, hd with | [_], _ => rfl) hW' hb⟩

end Go.Proofs.YticakimgoedknaaGreat
