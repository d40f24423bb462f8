/- The closed facts of the row ConsoleParses. -/
import Derived.Test.YtcpihdljjckecaaGreatDoorZ5
import Derived.Test.YtcpihdljjckecaaGreatDoorZ6
import Derived.Test.YtcpihdljjckecaaGreatDoorZ7
import Derived.Test.YtcpihdljjckecaaGreatDoorZ8
import Derived.Test.YtcpihdljjckecaaGreatDoorZP1
import Derived.Test.YtcpihdljjckecaaGreatDoorZP2
import Derived.Test.YtcpihdljjckecaaGreatDoorZP4
import Derived.Test.YtcpihdljjckecaaGreatDoorZP9
import Derived.JoinedOf
namespace Go.Proofs.YtcpihdljjckecaaGreatDoor
open Go
theorem consoleParses_q3 : (Rows.consoleParsesRow.recurses == Tryz.checked.prog.recurses 3) = true := by
  unfold Program.recurses
  rw [consoleParses_q2]
  rfl
theorem consoleParses_facts : joinedFacts Tryz.checked.prog 3 Tryz.f3 Rows.consoleParsesSpec Rows.consoleParsesRow = true := by
  unfold joinedFacts
  rw [consoleParses_q1, consoleParses_q2, consoleParses_q3, consoleParses_q4, z5, z6, z7, z8, consoleParses_q9]
  kernel_rfl
end Go.Proofs.YtcpihdljjckecaaGreatDoor
