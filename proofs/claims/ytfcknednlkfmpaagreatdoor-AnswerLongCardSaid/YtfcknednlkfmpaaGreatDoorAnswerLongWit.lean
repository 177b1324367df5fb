/- There are inputs of the law AnswerLong of which its row speaks. Conditions: none. -/
import Derived.Test.YtfcknednlkfmpaaGreatDoorRows
import Derived.Test.YtfcknednlkfmpaaGreatDoorBvm4
set_option maxRecDepth 100000
namespace Go.Proofs.YtfcknednlkfmpaaGreatDoor
open Go.Bvm

theorem answerLong_laid (os : Os) (args : Array Value) : laidMetH Tryz.prog Rows.answerLongRow.laid ((laidWorld Tryz.prog os Rows.answerLongRow.laid).forCall (fun _ _ => 0) ⟨#[], args, []⟩).memory :=
  laidMetH_of_parts (laidMet_of_run' 8 (by kernel_rfl) (by kernel_rfl)) (by kernel_rfl)

end Go.Proofs.YtfcknednlkfmpaaGreatDoor
