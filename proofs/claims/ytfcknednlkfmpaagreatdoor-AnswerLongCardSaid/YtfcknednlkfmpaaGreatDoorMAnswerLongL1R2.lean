/- Calls of the law AnswerLong, run apart. Conditions: none. -/
import Derived.Test.YtfcknednlkfmpaaGreatDoorMAnswerLongD
import Derived.Test.YtfcknednlkfmpaaGreatDoorTL
set_option maxRecDepth 100000
namespace Go.Bvm.YtfcknednlkfmpaaGreatDoorMAnswerLong
open Go.Bvm.YtfcknednlkfmpaaGreatDoorTL
theorem r25 : run tbl 80 11 l25 ⟨29561, putM P25 t6⟩ (memoK 34362 v25 Q25) = true := by decide +kernel
theorem w25 : wfM 29561 34362 P25 Q25 = true := by decide +kernel
theorem r26 : run tbl 80 13 l26 ⟨34363, putM P26 t6⟩ (memoK 36319 v26 Q26) = true := by decide +kernel
theorem w26 : wfM 34363 36319 P26 Q26 = true := by decide +kernel
theorem r27 : run tbl 80 15 l27 ⟨36319, putM P27 t6⟩ (memoK 36643 v27 Q27) = true := by decide +kernel
theorem w27 : wfM 36319 36643 P27 Q27 = true := by decide +kernel
theorem r28 : run tbl 80 10 l28 ⟨36644, putM P28 t6⟩ (memoK 36736 v28 Q28) = true := by decide +kernel
theorem w28 : wfM 36644 36736 P28 Q28 = true := by decide +kernel
theorem r29 : run tbl 80 11 l29 ⟨36737, putM P29 t6⟩ (memoK 42135 v29 Q29) = true := by decide +kernel
theorem w29 : wfM 36737 42135 P29 Q29 = true := by decide +kernel
theorem r30 : run tbl 80 13 l30 ⟨42136, putM P30 t6⟩ (memoK 44339 v30 Q30) = true := by decide +kernel
theorem w30 : wfM 42136 44339 P30 Q30 = true := by decide +kernel
end Go.Bvm.YtfcknednlkfmpaaGreatDoorMAnswerLong
