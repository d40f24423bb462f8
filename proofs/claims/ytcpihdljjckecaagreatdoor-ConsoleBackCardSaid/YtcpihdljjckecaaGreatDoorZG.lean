/- Closed facts of the cards. -/
import Derived.Test.YtcpihdljjckecaaGreatDoorRows
import Derived.Test.YtcpihdljjckecaaGreatDoorChecked
import Derived.SevenTiedAt
namespace Go.Proofs.YtcpihdljjckecaaGreatDoor
open Go
theorem zg_main : Tryz.pinned.checked.prog.mainIs = some ((true, "ab405878de8d2bc41e81cc8fbaabf2d7441acb6b4e5b781636f47955a0336712").1, (true, "ab405878de8d2bc41e81cc8fbaabf2d7441acb6b4e5b781636f47955a0336712").2.toList) := by kernel_rfl
theorem zg_looks : true = Tryz.prog.looks [] := by kernel_rfl
theorem zg_any : Tryz.checked.prog.funcs.any Func.goes = false := by kernel_rfl
theorem goes_no {P : Program} (h : P.funcs.any Func.goes = false) (f : FuncId) : P.goes f = false := by
  have h1 : ∀ g : FuncId, (P.funcs[g]?).any Func.goes = false := fun g => by
    cases hg : P.funcs[g]? with
    | none => rfl
    | some fn =>
      obtain ⟨hlt, rfl⟩ := Array.getElem?_eq_some_iff.1 hg
      cases hb : Func.goes P.funcs[g] with
      | false => exact hb
      | true =>
        have : P.funcs.any Func.goes = true := Array.any_eq_true.2 ⟨g, hlt, hb⟩
        rw [h] at this; cases this
  unfold Program.goes
  rw [h, Bool.and_false, Bool.or_false, List.any_eq_false]
  exact fun g _ => by rw [h1 g]; decide
theorem goesBy_no {P : Program} (h : ∀ f, P.goes f = false) (c : OpenClaim) : false = c.goesBy P := by
  unfold OpenClaim.goesBy Program.goesAt Program.goesFrom
  have h1 : ∀ o : Option FuncId, o.any P.goes = false := fun o => by
    cases o with
    | none => rfl
    | some f => exact h f
  rw [h1, Bool.false_or]
  split
  · rfl
  · symm
    rw [List.any_eq_false]
    exact fun g _ => by rw [h g]; decide
theorem zg_goes (c : OpenClaim) : false = c.goesBy Tryz.checked.prog := goesBy_no (goes_no zg_any) c
end Go.Proofs.YtcpihdljjckecaaGreatDoor
