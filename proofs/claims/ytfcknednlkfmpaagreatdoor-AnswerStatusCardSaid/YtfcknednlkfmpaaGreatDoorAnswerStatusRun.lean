/- The law AnswerStatus, run by the abstract machine, answers true. Conditions: none. -/
import Derived.Test.YtfcknednlkfmpaaGreatDoorBvm4
import Derived.Test.YtfcknednlkfmpaaGreatDoorMAnswerStatusL1
set_option maxRecDepth 100000
namespace Go.Proofs.YtfcknednlkfmpaaGreatDoor
open Go.Bvm

theorem answerStatus_run : Go.Bvm.YtfcknednlkfmpaaGreatDoorTS.T6 (run Go.Bvm.YtfcknednlkfmpaaGreatDoorMAnswerStatus.tbl1 80) Go.Bvm.YtfcknednlkfmpaaGreatDoorTS.big (.x .cons (oslArg 11) V.nil) ⟨0, t6⟩ (fun v _ => onT v fun b => b) = true := by decide +kernel

end Go.Proofs.YtfcknednlkfmpaaGreatDoor
