/- A closed fact of the row SystemChecks. -/
import Derived.Test.YticakimgoedknaaGreatRows
import Derived.Test.YticakimgoedknaaGreatChecked
namespace Go.Proofs.YticakimgoedknaaGreat
open Go
theorem systemChecks_q2 : Tryz.checked.prog.unfollowed 3 = true := by kernel_rfl
end Go.Proofs.YticakimgoedknaaGreat
