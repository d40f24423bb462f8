/- The tie of the row ConsolePrints. -/
import Derived.Test.YtcpihdljjckecaaGreatDoorTIb
import Derived.Test.YtcpihdljjckecaaGreatDoorTc3
import Derived.Test.YtcpihdljjckecaaGreatDoorRows
import Derived.SevenTiedAt
namespace Go.Proofs.YtcpihdljjckecaaGreatDoor
open Go
theorem consolePrints_rowtie : Rows.consolePrintsRow.laidByTextAt .later Tryz.pinned [.data, .data, .data, .pinned, .data, .sentinel, .sentinel] true :=
  OpenClaim.laidByTextAt_pinned rfl rfl tie_b rfl rfl rfl rfl (fun y hy _e => by
    simp only [Rows.consolePrintsRow, List.zip_cons_cons, List.zip_nil_right, List.mem_cons, List.mem_nil_iff, or_false] at hy
    rcases hy with rfl | rfl | rfl | rfl | rfl | rfl | rfl
    · cases _e
    · cases _e
    · cases _e
    · exact ⟨pin_first, by kernel_rfl⟩
    · cases _e
    · cases _e
    · cases _e) fits_b
end Go.Proofs.YtcpihdljjckecaaGreatDoor
