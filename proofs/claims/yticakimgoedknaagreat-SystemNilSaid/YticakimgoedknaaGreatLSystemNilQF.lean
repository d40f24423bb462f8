/- The closed facts of the row SystemNil. -/
import Derived.Test.YticakimgoedknaaGreatLSystemNilQ5
import Derived.Test.YticakimgoedknaaGreatLSystemNilQ6
import Derived.Test.YticakimgoedknaaGreatLSystemNilQ7
import Derived.Test.YticakimgoedknaaGreatLSystemNilQ8
import Derived.Test.YticakimgoedknaaGreatLSystemNilQ9
import Derived.Test.YticakimgoedknaaGreatLSystemNilQ1
import Derived.Test.YticakimgoedknaaGreatLSystemNilQ2
import Derived.Test.YticakimgoedknaaGreatLSystemNilQ4
import Derived.JoinedOf
namespace Go.Proofs.YticakimgoedknaaGreat
open Go
theorem systemNil_q3 : (Rows.systemNilRow.recurses == Tryz.checked.prog.recurses 4) = true := by
  unfold Program.recurses
  rw [systemNil_q2]
  rfl
theorem systemNil_facts : joinedFacts Tryz.checked.prog 4 Tryz.f4 Rows.systemNilSpec Rows.systemNilRow = true := by
  unfold joinedFacts
  rw [systemNil_q1, systemNil_q2, systemNil_q3, systemNil_q4, systemNil_q5, systemNil_q6, systemNil_q7, systemNil_q8, systemNil_q9]
  kernel_rfl
end Go.Proofs.YticakimgoedknaaGreat
