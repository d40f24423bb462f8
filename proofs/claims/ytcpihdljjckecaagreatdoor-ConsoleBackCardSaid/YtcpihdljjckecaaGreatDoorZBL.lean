/- The walk lifted, for the row ConsoleBack. -/
import Derived.Test.YtcpihdljjckecaaGreatDoorConD
import Derived.Test.YtcpihdljjckecaaGreatDoorConG
import Derived.Test.YtcpihdljjckecaaGreatDoorZBW
import Derived.Test.YtcpihdljjckecaaGreatDoorZ5
import Derived.Test.YtcpihdljjckecaaGreatDoorRows
import Derived.Test.YtcpihdljjckecaaGreatDoorChecked
namespace Go.Proofs.YtcpihdljjckecaaGreatDoor
open Go
open Go.RowKit Go.ChangeShapes Go.WideShapes Go.ChangeAt
set_option maxRecDepth 100000 in
theorem consoleBack_lifted (os : Os) (started : os.Started) (H : Type) (enc : TypeId × Value → H) :
    ReturnsInHanded {} Tryz.checked os 5 .any (fun w args => (Rows.consoleBackSpec.pre enc Tryz.prog Tryz.f5 Rows.consoleBackRow.domain false w args ∧ laidMetH Tryz.prog Rows.consoleBackRow.laid w) ∧ sizedMet enc Tryz.prog Tryz.f5 (OpenSpec.ofChange Rows.consoleBackSpec) false w args) (Rows.consoleBackSpec.post enc Tryz.prog Tryz.f5 false true false false) := by
  refine E.handed_and (C := Tryz.checked) (X := fun w _ => laidMetH Tryz.prog Rows.consoleBackRow.laid w) (fun _ _ _ hh h => h.of_heap hh) (by kernel_rfl) started (by kernel_rfl) Tryz.func5
    (ChangeSpec.witness_shaped (enc := enc) (C := Tryz.checked) (os := os) (X := fun w _ => laidMetH Tryz.prog Rows.consoleBackRow.laid w) false (consoleBack_w0 os) #[Con.zArg, .string ⟨#[]⟩] 8 (World.laidAll_os _ _ _) (consoleBack_wa os) (consoleBack_wb os) (by kernel_rfl) (by kernel_rfl) (consoleBack_wc os)) ?_
  intro W base args ds gs before hval0 hW hL hsh
  have hval : ∀ (j : Nat) t v, Tryz.f5.params[j]? = some t → args[j]? = some v → Value.okWide Tryz.prog W .any base t v := hval0
  have hW' := hW
  obtain ⟨p, q, hA0, hV, rfl, hfz, hnd⟩ := hW
  have hA : DataW.TrodAll enc Tryz.prog W 0 (fun _ => true) true Tryz.f5.params.toList args.toList ds p := hA0
  rw [Tryz.params5] at hA hval
  obtain ⟨v0, v1, d0, d1, p0, p1, rfl, _, _, h0, h1⟩ := trodAll_two hA
  have hv0 := hval 0 30 v0 rfl rfl
  have hv1 := hval 1 9 v1 rfl rfl
  have hl : Con.Lw W := Con.lw_a hL hsh
  obtain ⟨a, ha, rfl⟩ := Con.open_act hv0 h0
  obtain ⟨line, rfl⟩ := Con.open_line hv1
  refine (Con.backLaw_w a ha line W hl).mono fun e W' he => ?_
  obtain ⟨rfl, hb⟩ := he
  exact ⟨_, rfl, E.row_post0 (tb := 4) z5 (by kernel_rfl) rfl Tryz.underlying4 rfl (fun ds hd => match ds, hd with | [_, _], _ => rfl) hW' hb⟩
end Go.Proofs.YtcpihdljjckecaaGreatDoor
