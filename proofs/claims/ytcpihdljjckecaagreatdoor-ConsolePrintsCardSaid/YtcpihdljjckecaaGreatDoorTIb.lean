/- The tie of the listed variables. -/
import Derived.Test.YtcpihdljjckecaaGreatDoorTc1
import Derived.Test.YtcpihdljjckecaaGreatDoorTc2
import Derived.Test.YtcpihdljjckecaaGreatDoorTb1
import Derived.Test.YtcpihdljjckecaaGreatDoorTb2
import Derived.Test.YtcpihdljjckecaaGreatDoorTb3
import Derived.Test.YtcpihdljjckecaaGreatDoorTb4
import Derived.LaidByTextLater
namespace Go.Proofs.YtcpihdljjckecaaGreatDoor
open Go
theorem tie_b : Tryz.prog.laidByTextLater laid_b [.data, .data, .data, .data, .sentinel, .sentinel] true :=
  Program.laidByTextLater_by_run 400 8 ti_w ti_v ti_o ti_bk ti_g ti_bn ti_d ti_br ti_bs ti_bp
end Go.Proofs.YtcpihdljjckecaaGreatDoor
