/- The closed facts of the row ConsolePrints. -/
import Derived.Test.YtcpihdljjckecaaGreatDoorZ5
import Derived.Test.YtcpihdljjckecaaGreatDoorZ6
import Derived.Test.YtcpihdljjckecaaGreatDoorZ7
import Derived.Test.YtcpihdljjckecaaGreatDoorZ8
import Derived.Test.YtcpihdljjckecaaGreatDoorZR1
import Derived.Test.YtcpihdljjckecaaGreatDoorZR2
import Derived.Test.YtcpihdljjckecaaGreatDoorZR4
import Derived.Test.YtcpihdljjckecaaGreatDoorZR9
import Derived.JoinedOf
namespace Go.Proofs.YtcpihdljjckecaaGreatDoor
open Go
theorem consolePrints_q3 : (Rows.consolePrintsRow.recurses == Tryz.checked.prog.recurses 4) = true := by
  unfold Program.recurses
  rw [consolePrints_q2]
  rfl
theorem consolePrints_facts : joinedFacts Tryz.checked.prog 4 Tryz.f4 Rows.consolePrintsSpec Rows.consolePrintsRow = true := by
  unfold joinedFacts
  rw [consolePrints_q1, consolePrints_q2, consolePrints_q3, consolePrints_q4, z5, z6, z7, z8, consolePrints_q9]
  kernel_rfl
end Go.Proofs.YtcpihdljjckecaaGreatDoor
