/- Calls of the law AnswerLong, run apart. Conditions: none. -/
import Derived.Test.YtfcknednlkfmpaaGreatDoorMAnswerLongD
import Derived.Test.YtfcknednlkfmpaaGreatDoorTL
set_option maxRecDepth 100000
namespace Go.Bvm.YtfcknednlkfmpaaGreatDoorMAnswerLong
open Go.Bvm.YtfcknednlkfmpaaGreatDoorTL
theorem r53 : run tbl 80 11 l53 ⟨99225, putM P53 t6⟩ (memoK 105927 v53 Q53) = true := by decide +kernel
theorem w53 : wfM 99225 105927 P53 Q53 = true := by decide +kernel
theorem r54 : run tbl 80 13 l54 ⟨105928, putM P54 t6⟩ (memoK 109310 v54 Q54) = true := by decide +kernel
theorem w54 : wfM 105928 109310 P54 Q54 = true := by decide +kernel
theorem r55 : run tbl 80 10 l55 ⟨109311, putM P55 t6⟩ (memoK 109459 v55 Q55) = true := by decide +kernel
theorem w55 : wfM 109311 109459 P55 Q55 = true := by decide +kernel
theorem r56 : run tbl 80 11 l56 ⟨109460, putM P56 t6⟩ (memoK 116719 v56 Q56) = true := by decide +kernel
theorem w56 : wfM 109460 116719 P56 Q56 = true := by decide +kernel
end Go.Bvm.YtfcknednlkfmpaaGreatDoorMAnswerLong
