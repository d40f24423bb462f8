/- A closed fact of the row SystemNil. -/
import Derived.Test.YticakimgoedknaaGreatRows
import Derived.Test.YticakimgoedknaaGreatChecked
namespace Go.Proofs.YticakimgoedknaaGreat
open Go
theorem systemNil_q1 : (Rows.systemNilRow.inPlace == Tryz.checked.prog.inPlace 4) = true := by kernel_rfl
end Go.Proofs.YticakimgoedknaaGreat
