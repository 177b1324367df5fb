/- Calls of the law AnswerLong, run apart. Conditions: none. -/
import Derived.Test.YtfcknednlkfmpaaGreatDoorMAnswerLongD
import Derived.Test.YtfcknednlkfmpaaGreatDoorTL
set_option maxRecDepth 100000
namespace Go.Bvm.YtfcknednlkfmpaaGreatDoorMAnswerLong
open Go.Bvm.YtfcknednlkfmpaaGreatDoorTL
theorem r62 : run tbl 80 11 l62 ⟨132326, putM P62 t6⟩ (memoK 140759 v62 Q62) = true := by decide +kernel
theorem w62 : wfM 132326 140759 P62 Q62 = true := by decide +kernel
theorem r63 : run tbl 80 13 l63 ⟨140760, putM P63 t6⟩ (memoK 144823 v63 Q63) = true := by decide +kernel
theorem w63 : wfM 140760 144823 P63 Q63 = true := by decide +kernel
theorem r64 : run tbl 80 10 l64 ⟨144824, putM P64 t6⟩ (memoK 144996 v64 Q64) = true := by decide +kernel
theorem w64 : wfM 144824 144996 P64 Q64 = true := by decide +kernel
end Go.Bvm.YtfcknednlkfmpaaGreatDoorMAnswerLong
