/- Calls of the law AnswerLong, run apart. Conditions: none. -/
import Derived.Test.YtfcknednlkfmpaaGreatDoorMAnswerLongD
import Derived.Test.YtfcknednlkfmpaaGreatDoorTL
set_option maxRecDepth 100000
namespace Go.Bvm.YtfcknednlkfmpaaGreatDoorMAnswerLong
open Go.Bvm.YtfcknednlkfmpaaGreatDoorTL
theorem r71 : run tbl 80 11 l71 ⟨172915, putM P71 t6⟩ (memoK 183259 v71 Q71) = true := by decide +kernel
theorem w71 : wfM 172915 183259 P71 Q71 = true := by decide +kernel
theorem r72 : run tbl 80 13 l72 ⟨183260, putM P72 t6⟩ (memoK 188004 v72 Q72) = true := by decide +kernel
theorem w72 : wfM 183260 188004 P72 Q72 = true := by decide +kernel
theorem r73 : run tbl 80 11 l73 ⟨188015, putM P73 t6⟩ (memoK 188166 v73 Q73) = true := by decide +kernel
theorem w73 : wfM 188015 188166 P73 Q73 = true := by decide +kernel
end Go.Bvm.YtfcknednlkfmpaaGreatDoorMAnswerLong
