/- Calls of the law PlanTexts, run apart. Conditions: none. -/
import Derived.Test.YtfcknednlkfmpaaGreatDoorMPlanTextsD
import Derived.Test.YtfcknednlkfmpaaGreatDoorMPlanTextsL2
set_option maxRecDepth 100000
namespace Go.Bvm.YtfcknednlkfmpaaGreatDoorMPlanTexts
open Go.Bvm.YtfcknednlkfmpaaGreatDoorTP
theorem r39 : run tbl2 80 7 l39 ⟨7, putM P39 t6⟩ (memoK 13800 v39 Q39) = true := by decide +kernel
theorem w39 : wfM 7 13800 P39 Q39 = true := by decide +kernel
end Go.Bvm.YtfcknednlkfmpaaGreatDoorMPlanTexts
