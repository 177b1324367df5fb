/- There are inputs of the law PlanLimits of which its row speaks. Conditions: none. -/
import Derived.Test.YtfcknednlkfmpaaGreatDoorRows
import Derived.Test.YtfcknednlkfmpaaGreatDoorBvmLaid
set_option maxRecDepth 100000
namespace Go.Proofs.YtfcknednlkfmpaaGreatDoor
open Go.Bvm

theorem planLimits_laid (os : Os) (args : Array Value) : laidMetH Tryz.prog Rows.planLimitsRow.laid ((laidWorld Tryz.prog os Rows.planLimitsRow.laid).forCall (fun _ _ => 0) ⟨#[], args, []⟩).memory :=
  laidMetH_of_parts (laidMet_of_run' 8 (by kernel_rfl) (by kernel_rfl)) (by kernel_rfl)

end Go.Proofs.YtfcknednlkfmpaaGreatDoor
