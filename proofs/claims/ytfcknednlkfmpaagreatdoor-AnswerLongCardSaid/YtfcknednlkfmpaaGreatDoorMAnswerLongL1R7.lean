/- Calls of the law AnswerLong, run apart. Conditions: none. -/
import Derived.Test.YtfcknednlkfmpaaGreatDoorMAnswerLongD
import Derived.Test.YtfcknednlkfmpaaGreatDoorTL
set_option maxRecDepth 100000
namespace Go.Bvm.YtfcknednlkfmpaaGreatDoorMAnswerLong
open Go.Bvm.YtfcknednlkfmpaaGreatDoorTL
theorem r49 : run tbl 80 11 l49 ⟨86397, putM P49 t6⟩ (memoK 95080 v49 Q49) = true := by decide +kernel
theorem w49 : wfM 86397 95080 P49 Q49 = true := by decide +kernel
theorem r50 : run tbl 80 13 l50 ⟨95081, putM P50 t6⟩ (memoK 98519 v50 Q50) = true := by decide +kernel
theorem w50 : wfM 95081 98519 P50 Q50 = true := by decide +kernel
theorem r51 : run tbl 80 15 l51 ⟨98519, putM P51 t6⟩ (memoK 99083 v51 Q51) = true := by decide +kernel
theorem w51 : wfM 98519 99083 P51 Q51 = true := by decide +kernel
theorem r52 : run tbl 80 10 l52 ⟨99084, putM P52 t6⟩ (memoK 99224 v52 Q52) = true := by decide +kernel
theorem w52 : wfM 99084 99224 P52 Q52 = true := by decide +kernel
end Go.Bvm.YtfcknednlkfmpaaGreatDoorMAnswerLong
