/- The tied card ConsoleParses: the law returns true for every input, where the listed package variables begin as the program's text lays them; each argument reads as it did. -/
import Derived.Test.YtcpihdljjckecaaGreatDoorZPH
import Derived.Test.YtcpihdljjckecaaGreatDoorZPT
import Derived.Test.YtcpihdljjckecaaGreatDoorZPG1
import Derived.Test.YtcpihdljjckecaaGreatDoorZG
import Derived.Test.YtcpihdljjckecaaGreatDoorCards
import Derived.SevenTiedAt
namespace Go.Proofs.YtcpihdljjckecaaGreatDoor
open Go Go.RowKit Go.ChangeShapes Go.WideShapes Go.ChangeAt
theorem consoleParses_card : Rows.ConsoleParsesCardSaid :=
  Claim7.holds_tied_plain_at .later [] [.pinned, .data, .sentinel, .sentinel, .data, .data, .data] true (true, "ab405878de8d2bc41e81cc8fbaabf2d7441acb6b4e5b781636f47955a0336712") true consoleParses_holds (fun _ h => by cases h) consoleParses_g1 (fun _ h => by cases h) consoleParses_rowtie rfl ⟨rfl, rfl⟩ zg_main rfl
    (fun f fn hf hfn => by
      obtain rfl : f = 3 := Option.some.inj ((show Tryz.prog.funcNamed "bikeshare/bikesharelaw62.ConsoleParses" = some 3 by kernel_rfl).symm.trans hf) |>.symm
      obtain rfl : fn = Tryz.f3 := (Option.some.inj (Tryz.func3.symm.trans hfn)).symm
      exact ⟨zg_looks, fun j t ht => by
        rw [Tryz.params3] at ht
        have hm : t ∈ [9] := by simpa using Array.mem_of_getElem? ht
        have hall : ([9].all fun u => !Tryz.prog.wantsStandIn u) = true := by kernel_rfl
        exact (show Tryz.prog.wantsStandIn t = false by simpa using List.all_eq_true.1 hall t hm)⟩)
    (zg_goes _)
end Go.Proofs.YtcpihdljjckecaaGreatDoor
