/- A closed fact of the row AuditFinds. -/
import Derived.Test.YtomomjgdeomgiaaGreatRows
import Derived.Test.YtomomjgdeomgiaaGreatChecked
namespace Go.Proofs.YtomomjgdeomgiaaGreat
open Go
theorem auditFinds_q2 : Tryz.checked.prog.unfollowed 7 = true := by kernel_rfl
end Go.Proofs.YtomomjgdeomgiaaGreat
