/- Calls of the law AnswerLong, run apart. Conditions: none. -/
import Derived.Test.YtfcknednlkfmpaaGreatDoorMAnswerLongD
import Derived.Test.YtfcknednlkfmpaaGreatDoorTL
set_option maxRecDepth 100000
namespace Go.Bvm.YtfcknednlkfmpaaGreatDoorMAnswerLong
open Go.Bvm.YtfcknednlkfmpaaGreatDoorTL
theorem r45 : run tbl 80 11 l45 ⟨74561, putM P45 t6⟩ (memoK 82547 v45 Q45) = true := by decide +kernel
theorem w45 : wfM 74561 82547 P45 Q45 = true := by decide +kernel
theorem r46 : run tbl 80 13 l46 ⟨82548, putM P46 t6⟩ (memoK 85739 v46 Q46) = true := by decide +kernel
theorem w46 : wfM 82548 85739 P46 Q46 = true := by decide +kernel
theorem r47 : run tbl 80 15 l47 ⟨85739, putM P47 t6⟩ (memoK 86263 v47 Q47) = true := by decide +kernel
theorem w47 : wfM 85739 86263 P47 Q47 = true := by decide +kernel
theorem r48 : run tbl 80 10 l48 ⟨86264, putM P48 t6⟩ (memoK 86396 v48 Q48) = true := by decide +kernel
theorem w48 : wfM 86264 86396 P48 Q48 = true := by decide +kernel
end Go.Bvm.YtfcknednlkfmpaaGreatDoorMAnswerLong
