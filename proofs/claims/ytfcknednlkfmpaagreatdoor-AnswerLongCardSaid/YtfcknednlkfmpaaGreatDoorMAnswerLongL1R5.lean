/- Calls of the law AnswerLong, run apart. Conditions: none. -/
import Derived.Test.YtfcknednlkfmpaaGreatDoorMAnswerLongD
import Derived.Test.YtfcknednlkfmpaaGreatDoorTL
set_option maxRecDepth 100000
namespace Go.Bvm.YtfcknednlkfmpaaGreatDoorMAnswerLong
open Go.Bvm.YtfcknednlkfmpaaGreatDoorTL
theorem r41 : run tbl 80 11 l41 ⟨63697, putM P41 t6⟩ (memoK 71006 v41 Q41) = true := by decide +kernel
theorem w41 : wfM 63697 71006 P41 Q41 = true := by decide +kernel
theorem r42 : run tbl 80 13 l42 ⟨71007, putM P42 t6⟩ (memoK 73951 v42 Q42) = true := by decide +kernel
theorem w42 : wfM 71007 73951 P42 Q42 = true := by decide +kernel
theorem r43 : run tbl 80 15 l43 ⟨73951, putM P43 t6⟩ (memoK 74435 v43 Q43) = true := by decide +kernel
theorem w43 : wfM 73951 74435 P43 Q43 = true := by decide +kernel
theorem r44 : run tbl 80 10 l44 ⟨74436, putM P44 t6⟩ (memoK 74560 v44 Q44) = true := by decide +kernel
theorem w44 : wfM 74436 74560 P44 Q44 = true := by decide +kernel
end Go.Bvm.YtfcknednlkfmpaaGreatDoorMAnswerLong
