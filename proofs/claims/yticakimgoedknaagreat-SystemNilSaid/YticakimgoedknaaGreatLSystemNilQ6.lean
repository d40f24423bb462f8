/- A closed fact of the row SystemNil. -/
import Derived.Test.YticakimgoedknaaGreatRows
import Derived.Test.YticakimgoedknaaGreatChecked
import Derived.JoinedOf
namespace Go.Proofs.YticakimgoedknaaGreat
open Go
theorem systemNil_q6 : mapsRowed Tryz.checked.prog = true := by kernel_rfl
end Go.Proofs.YticakimgoedknaaGreat
