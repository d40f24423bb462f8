/- The closed facts of the row ConsoleBack. -/
import Derived.Test.YtcpihdljjckecaaGreatDoorZ5
import Derived.Test.YtcpihdljjckecaaGreatDoorZ6
import Derived.Test.YtcpihdljjckecaaGreatDoorZ7
import Derived.Test.YtcpihdljjckecaaGreatDoorZ8
import Derived.Test.YtcpihdljjckecaaGreatDoorZB1
import Derived.Test.YtcpihdljjckecaaGreatDoorZB2
import Derived.Test.YtcpihdljjckecaaGreatDoorZB4
import Derived.Test.YtcpihdljjckecaaGreatDoorZB9
import Derived.JoinedOf
namespace Go.Proofs.YtcpihdljjckecaaGreatDoor
open Go
theorem consoleBack_q3 : (Rows.consoleBackRow.recurses == Tryz.checked.prog.recurses 5) = true := by
  unfold Program.recurses
  rw [consoleBack_q2]
  rfl
theorem consoleBack_facts : joinedFacts Tryz.checked.prog 5 Tryz.f5 Rows.consoleBackSpec Rows.consoleBackRow = true := by
  unfold joinedFacts
  rw [consoleBack_q1, consoleBack_q2, consoleBack_q3, consoleBack_q4, z5, z6, z7, z8, consoleBack_q9]
  kernel_rfl
end Go.Proofs.YtcpihdljjckecaaGreatDoor
