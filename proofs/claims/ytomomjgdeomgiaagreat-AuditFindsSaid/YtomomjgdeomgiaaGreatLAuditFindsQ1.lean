/- A closed fact of the row AuditFinds. -/
import Derived.Test.YtomomjgdeomgiaaGreatRows
import Derived.Test.YtomomjgdeomgiaaGreatChecked
namespace Go.Proofs.YtomomjgdeomgiaaGreat
open Go
theorem auditFinds_q1 : (Rows.auditFindsRow.inPlace == Tryz.checked.prog.inPlace 7) = true := by kernel_rfl
end Go.Proofs.YtomomjgdeomgiaaGreat
