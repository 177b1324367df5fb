/- The law PlanTexts, run by the abstract machine, answers true. Conditions: none. -/
import Derived.Test.YtfcknednlkfmpaaGreatDoorBvm4
import Derived.Test.YtfcknednlkfmpaaGreatDoorMPlanTextsL3
set_option maxRecDepth 100000
namespace Go.Proofs.YtfcknednlkfmpaaGreatDoor
open Go.Bvm

theorem planTexts_run : Go.Bvm.YtfcknednlkfmpaaGreatDoorTP.T3 (run Go.Bvm.YtfcknednlkfmpaaGreatDoorMPlanTexts.tbl3 80) Go.Bvm.YtfcknednlkfmpaaGreatDoorTP.big (.x .cons (oslArg 10) V.nil) ⟨5, putM (pinsM Go.Bvm.YtfcknednlkfmpaaGreatDoorTP.L) t6⟩ (fun v _ => onT v fun b => b) = true := by decide +kernel

end Go.Proofs.YtfcknednlkfmpaaGreatDoor
