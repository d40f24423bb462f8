/- The closed facts of the row AuditFinds. -/
import Derived.Test.YtomomjgdeomgiaaGreatLAuditFindsQ5
import Derived.Test.YtomomjgdeomgiaaGreatLAuditFindsQ6
import Derived.Test.YtomomjgdeomgiaaGreatLAuditFindsQ7
import Derived.Test.YtomomjgdeomgiaaGreatLAuditFindsQ8
import Derived.Test.YtomomjgdeomgiaaGreatLAuditFindsQ9
import Derived.Test.YtomomjgdeomgiaaGreatLAuditFindsQ1
import Derived.Test.YtomomjgdeomgiaaGreatLAuditFindsQ2
import Derived.Test.YtomomjgdeomgiaaGreatLAuditFindsQ4
import Derived.JoinedOf
namespace Go.Proofs.YtomomjgdeomgiaaGreat
open Go
theorem auditFinds_q3 : (Rows.auditFindsRow.recurses == Tryz.checked.prog.recurses 7) = true := by
  unfold Program.recurses
  rw [auditFinds_q2]
  rfl
theorem auditFinds_facts : joinedFacts Tryz.checked.prog 7 Tryz.f7 Rows.auditFindsSpec Rows.auditFindsRow = true := by
  unfold joinedFacts
  rw [auditFinds_q1, auditFinds_q2, auditFinds_q3, auditFinds_q4, auditFinds_q5, auditFinds_q6, auditFinds_q7, auditFinds_q8, auditFinds_q9]
  kernel_rfl
end Go.Proofs.YtomomjgdeomgiaaGreat
