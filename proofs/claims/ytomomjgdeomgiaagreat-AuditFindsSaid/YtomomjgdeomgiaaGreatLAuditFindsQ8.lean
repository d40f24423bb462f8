/- A closed fact of the row AuditFinds. -/
import Derived.Test.YtomomjgdeomgiaaGreatRows
import Derived.Test.YtomomjgdeomgiaaGreatChecked
import Derived.JoinedOf
namespace Go.Proofs.YtomomjgdeomgiaaGreat
open Go
theorem auditFinds_q8 : Tryz.checked.prog.mayEnter = true := by kernel_rfl
end Go.Proofs.YtomomjgdeomgiaaGreat
