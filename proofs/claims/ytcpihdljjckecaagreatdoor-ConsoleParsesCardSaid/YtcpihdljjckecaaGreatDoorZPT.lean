/- The tie of the row ConsoleParses. -/
import Derived.Test.YtcpihdljjckecaaGreatDoorTIa
import Derived.Test.YtcpihdljjckecaaGreatDoorTc3
import Derived.Test.YtcpihdljjckecaaGreatDoorRows
import Derived.SevenTiedAt
namespace Go.Proofs.YtcpihdljjckecaaGreatDoor
open Go
theorem consoleParses_rowtie : Rows.consoleParsesRow.laidByTextAt .later Tryz.pinned [.pinned, .data, .sentinel, .sentinel, .data, .data, .data] true :=
  OpenClaim.laidByTextAt_pinned rfl rfl tie_a rfl rfl rfl rfl (fun y hy _e => by
    simp only [Rows.consoleParsesRow, List.zip_cons_cons, List.zip_nil_right, List.mem_cons, List.mem_nil_iff, or_false] at hy
    rcases hy with rfl | rfl | rfl | rfl | rfl | rfl | rfl
    · exact ⟨pin_first, by kernel_rfl⟩
    · cases _e
    · cases _e
    · cases _e
    · cases _e
    · cases _e
    · cases _e) fits_a
end Go.Proofs.YtcpihdljjckecaaGreatDoor
