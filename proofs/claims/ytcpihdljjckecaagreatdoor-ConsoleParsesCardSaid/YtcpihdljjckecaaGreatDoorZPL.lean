/- The walk lifted, for the row ConsoleParses. -/
import Derived.Test.YtcpihdljjckecaaGreatDoorConR
import Derived.Test.YtcpihdljjckecaaGreatDoorConG
import Derived.Test.YtcpihdljjckecaaGreatDoorZPW
import Derived.Test.YtcpihdljjckecaaGreatDoorZ5
import Derived.Test.YtcpihdljjckecaaGreatDoorRows
import Derived.Test.YtcpihdljjckecaaGreatDoorChecked
namespace Go.Proofs.YtcpihdljjckecaaGreatDoor
open Go
open Go.RowKit Go.ChangeShapes Go.WideShapes Go.ChangeAt
set_option maxRecDepth 100000 in
theorem consoleParses_lifted (os : Os) (started : os.Started) (H : Type) (enc : TypeId × Value → H) :
    ReturnsInHanded {} Tryz.checked os 3 .any (fun w args => (Rows.consoleParsesSpec.pre enc Tryz.prog Tryz.f3 Rows.consoleParsesRow.domain false w args ∧ laidMetH Tryz.prog Rows.consoleParsesRow.laid w) ∧ sizedMet enc Tryz.prog Tryz.f3 (OpenSpec.ofChange Rows.consoleParsesSpec) false w args) (Rows.consoleParsesSpec.post enc Tryz.prog Tryz.f3 false true false false) := by
  refine E.handed_and (C := Tryz.checked) (X := fun w _ => laidMetH Tryz.prog Rows.consoleParsesRow.laid w) (fun _ _ _ hh h => h.of_heap hh) (by kernel_rfl) started (by kernel_rfl) Tryz.func3
    (ChangeSpec.witness_shaped (enc := enc) (C := Tryz.checked) (os := os) (X := fun w _ => laidMetH Tryz.prog Rows.consoleParsesRow.laid w) false (consoleParses_w0 os) #[.string ⟨#[]⟩] 8 (World.laidAll_os _ _ _) (consoleParses_wa os) (consoleParses_wb os) (by kernel_rfl) (by kernel_rfl) (consoleParses_wc os)) ?_
  intro W base args ds gs before hval0 hW hL hsh
  have hval : ∀ (j : Nat) t v, Tryz.f3.params[j]? = some t → args[j]? = some v → Value.okWide Tryz.prog W .any base t v := hval0
  have hW' := hW
  obtain ⟨p, q, hA0, hV, rfl, hfz, hnd⟩ := hW
  have hA : DataW.TrodAll enc Tryz.prog W 0 (fun _ => true) true Tryz.f3.params.toList args.toList ds p := hA0
  rw [Tryz.params3] at hA hval
  obtain ⟨v0, d0, rfl, _, h0⟩ := trodAll_one hA
  have hv0 := hval 0 9 v0 rfl rfl
  have hl : Con.Lw W := Con.lw_a hL hsh
  obtain ⟨line, rfl⟩ := Con.open_line hv0
  refine (Con.parsesLaw_w line W hl).mono fun e W' he => ?_
  obtain ⟨rfl, hb⟩ := he
  exact ⟨_, rfl, E.row_post0 (tb := 4) z5 (by kernel_rfl) rfl Tryz.underlying4 rfl (fun ds hd => match ds, hd with | [_], _ => rfl) hW' hb⟩
end Go.Proofs.YtcpihdljjckecaaGreatDoor
