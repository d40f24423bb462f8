/- The tie of the listed variables. -/
import Derived.Test.YtcpihdljjckecaaGreatDoorTc1
import Derived.Test.YtcpihdljjckecaaGreatDoorTc2
import Derived.Test.YtcpihdljjckecaaGreatDoorTa1
import Derived.Test.YtcpihdljjckecaaGreatDoorTa2
import Derived.Test.YtcpihdljjckecaaGreatDoorTa3
import Derived.Test.YtcpihdljjckecaaGreatDoorTa4
import Derived.LaidByTextLater
namespace Go.Proofs.YtcpihdljjckecaaGreatDoor
open Go
theorem tie_a : Tryz.prog.laidByTextLater laid_a [.data, .sentinel, .sentinel, .data, .data, .data] true :=
  Program.laidByTextLater_by_run 400 8 ti_w ti_v ti_o ti_ak ti_g ti_an ti_d ti_ar ti_as ti_ap
end Go.Proofs.YtcpihdljjckecaaGreatDoor
