/- The law PlanLimits, run by the abstract machine, answers true. Conditions: none. -/
import Derived.Test.YtfcknednlkfmpaaGreatDoorBvmLaid
import Derived.Test.YtfcknednlkfmpaaGreatDoorMPlanLimitsL1
set_option maxRecDepth 100000
namespace Go.Proofs.YtfcknednlkfmpaaGreatDoor
open Go.Bvm

theorem planLimits_run : Go.Bvm.YtfcknednlkfmpaaGreatDoorTPli.T4 (run Go.Bvm.YtfcknednlkfmpaaGreatDoorMPlanLimits.tbl1 80) Go.Bvm.YtfcknednlkfmpaaGreatDoorTPli.big (.x .cons (oslArg 10) V.nil) ⟨0, t6⟩ (fun v _ => onT v fun b => b) = true := by decide +kernel

end Go.Proofs.YtfcknednlkfmpaaGreatDoor
