/- Calls of the law AnswerLong, run apart. Conditions: none. -/
import Derived.Test.YtfcknednlkfmpaaGreatDoorMAnswerLongD
import Derived.Test.YtfcknednlkfmpaaGreatDoorTL
set_option maxRecDepth 100000
namespace Go.Bvm.YtfcknednlkfmpaaGreatDoorMAnswerLong
open Go.Bvm.YtfcknednlkfmpaaGreatDoorTL
theorem r57 : run tbl 80 13 l57 ⟨116720, putM P57 t6⟩ (memoK 120329 v57 Q57) = true := by decide +kernel
theorem w57 : wfM 116720 120329 P57 Q57 = true := by decide +kernel
theorem r58 : run tbl 80 10 l58 ⟨120330, putM P58 t6⟩ (memoK 120486 v58 Q58) = true := by decide +kernel
theorem w58 : wfM 120330 120486 P58 Q58 = true := by decide +kernel
theorem r59 : run tbl 80 11 l59 ⟨120487, putM P59 t6⟩ (memoK 128323 v59 Q59) = true := by decide +kernel
theorem w59 : wfM 120487 128323 P59 Q59 = true := by decide +kernel
theorem r60 : run tbl 80 13 l60 ⟨128324, putM P60 t6⟩ (memoK 132160 v60 Q60) = true := by decide +kernel
theorem w60 : wfM 128324 132160 P60 Q60 = true := by decide +kernel
theorem r61 : run tbl 80 10 l61 ⟨132161, putM P61 t6⟩ (memoK 132325 v61 Q61) = true := by decide +kernel
theorem w61 : wfM 132161 132325 P61 Q61 = true := by decide +kernel
end Go.Bvm.YtfcknednlkfmpaaGreatDoorMAnswerLong
