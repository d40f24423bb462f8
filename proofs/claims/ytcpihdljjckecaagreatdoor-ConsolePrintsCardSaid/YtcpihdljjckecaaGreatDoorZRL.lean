/- The walk lifted, for the row ConsolePrints. -/
import Derived.Test.YtcpihdljjckecaaGreatDoorConN
import Derived.Test.YtcpihdljjckecaaGreatDoorConG
import Derived.Test.YtcpihdljjckecaaGreatDoorZRW
import Derived.Test.YtcpihdljjckecaaGreatDoorZ5
import Derived.Test.YtcpihdljjckecaaGreatDoorRows
import Derived.Test.YtcpihdljjckecaaGreatDoorChecked
namespace Go.Proofs.YtcpihdljjckecaaGreatDoor
open Go
open Go.RowKit Go.ChangeShapes Go.WideShapes Go.ChangeAt
set_option maxRecDepth 100000 in
theorem consolePrints_lifted (os : Os) (started : os.Started) (H : Type) (enc : TypeId × Value → H) :
    ReturnsInHanded {} Tryz.checked os 4 .any (fun w args => (Rows.consolePrintsSpec.pre enc Tryz.prog Tryz.f4 Rows.consolePrintsRow.domain false w args ∧ laidMetH Tryz.prog Rows.consolePrintsRow.laid w) ∧ sizedMet enc Tryz.prog Tryz.f4 (OpenSpec.ofChange Rows.consolePrintsSpec) false w args) (Rows.consolePrintsSpec.post enc Tryz.prog Tryz.f4 false true false false) := by
  refine E.handed_and (C := Tryz.checked) (X := fun w _ => laidMetH Tryz.prog Rows.consolePrintsRow.laid w) (fun _ _ _ hh h => h.of_heap hh) (by kernel_rfl) started (by kernel_rfl) Tryz.func4
    (ChangeSpec.witness_shaped (enc := enc) (C := Tryz.checked) (os := os) (X := fun w _ => laidMetH Tryz.prog Rows.consolePrintsRow.laid w) false (consolePrints_w0 os) #[Con.zArg] 8 (World.laidAll_os _ _ _) (consolePrints_wa os) (consolePrints_wb os) (by kernel_rfl) (by kernel_rfl) (consolePrints_wc os)) ?_
  intro W base args ds gs before hval0 hW hL hsh
  have hval : ∀ (j : Nat) t v, Tryz.f4.params[j]? = some t → args[j]? = some v → Value.okWide Tryz.prog W .any base t v := hval0
  have hW' := hW
  obtain ⟨p, q, hA0, hV, rfl, hfz, hnd⟩ := hW
  have hA : DataW.TrodAll enc Tryz.prog W 0 (fun _ => true) true Tryz.f4.params.toList args.toList ds p := hA0
  rw [Tryz.params4] at hA hval
  obtain ⟨v0, d0, rfl, _, h0⟩ := trodAll_one hA
  have hv0 := hval 0 30 v0 rfl rfl
  have hl : Con.Lw W := Con.lw_b hL hsh
  obtain ⟨a, ha, rfl⟩ := Con.open_act hv0 h0
  refine (Con.printsLaw_w a ha W hl).mono fun e W' he => ?_
  obtain ⟨rfl, hb⟩ := he
  exact ⟨_, rfl, E.row_post0 (tb := 4) z5 (by kernel_rfl) rfl Tryz.underlying4 rfl (fun ds hd => match ds, hd with | [_], _ => rfl) hW' hb⟩
end Go.Proofs.YtcpihdljjckecaaGreatDoor
