/- The closed facts of the row SystemChecks. -/
import Derived.Test.YticakimgoedknaaGreatLSystemChecksQ5
import Derived.Test.YticakimgoedknaaGreatLSystemChecksQ6
import Derived.Test.YticakimgoedknaaGreatLSystemChecksQ7
import Derived.Test.YticakimgoedknaaGreatLSystemChecksQ8
import Derived.Test.YticakimgoedknaaGreatLSystemChecksQ9
import Derived.Test.YticakimgoedknaaGreatLSystemChecksQ1
import Derived.Test.YticakimgoedknaaGreatLSystemChecksQ2
import Derived.Test.YticakimgoedknaaGreatLSystemChecksQ4
import Derived.JoinedOf
namespace Go.Proofs.YticakimgoedknaaGreat
open Go
theorem systemChecks_q3 : (Rows.systemChecksRow.recurses == Tryz.checked.prog.recurses 3) = true := by
  unfold Program.recurses
  rw [systemChecks_q2]
  rfl
theorem systemChecks_facts : joinedFacts Tryz.checked.prog 3 Tryz.f3 Rows.systemChecksSpec Rows.systemChecksRow = true := by
  unfold joinedFacts
  rw [systemChecks_q1, systemChecks_q2, systemChecks_q3, systemChecks_q4, systemChecks_q5, systemChecks_q6, systemChecks_q7, systemChecks_q8, systemChecks_q9]
  kernel_rfl
end Go.Proofs.YticakimgoedknaaGreat
