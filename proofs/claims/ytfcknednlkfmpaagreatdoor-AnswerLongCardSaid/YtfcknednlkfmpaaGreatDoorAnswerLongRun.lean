/- The law AnswerLong, run by the abstract machine, answers true. Conditions: none. -/
import Derived.Test.YtfcknednlkfmpaaGreatDoorBvm4
import Derived.Test.YtfcknednlkfmpaaGreatDoorMAnswerLongL1
set_option maxRecDepth 100000
namespace Go.Proofs.YtfcknednlkfmpaaGreatDoor
open Go.Bvm

theorem answerLong_run : Go.Bvm.YtfcknednlkfmpaaGreatDoorTL.T5 (run Go.Bvm.YtfcknednlkfmpaaGreatDoorMAnswerLong.tbl1 80) Go.Bvm.YtfcknednlkfmpaaGreatDoorTL.big (.x .cons (oslArg 11) V.nil) ⟨0, t6⟩ (fun v _ => onT v fun b => b) = true := by decide +kernel

end Go.Proofs.YtfcknednlkfmpaaGreatDoor
