/- A closed fact of the row SystemNil. -/
import Derived.Test.YticakimgoedknaaGreatRows
import Derived.Test.YticakimgoedknaaGreatChecked
namespace Go.Proofs.YticakimgoedknaaGreat
open Go
theorem systemNil_q2 : Tryz.checked.prog.unfollowed 4 = true := by kernel_rfl
end Go.Proofs.YticakimgoedknaaGreat
