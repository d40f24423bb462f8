/- A closed fact of the row SystemChecks. -/
import Derived.Test.YticakimgoedknaaGreatRows
import Derived.Test.YticakimgoedknaaGreatChecked
namespace Go.Proofs.YticakimgoedknaaGreat
open Go
theorem systemChecks_q1 : (Rows.systemChecksRow.inPlace == Tryz.checked.prog.inPlace 3) = true := by kernel_rfl
end Go.Proofs.YticakimgoedknaaGreat
