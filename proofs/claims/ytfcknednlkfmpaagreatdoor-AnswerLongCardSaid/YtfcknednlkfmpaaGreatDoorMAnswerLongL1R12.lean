/- Calls of the law AnswerLong, run apart. Conditions: none. -/
import Derived.Test.YtfcknednlkfmpaaGreatDoorMAnswerLongD
import Derived.Test.YtfcknednlkfmpaaGreatDoorTL
set_option maxRecDepth 100000
namespace Go.Bvm.YtfcknednlkfmpaaGreatDoorMAnswerLong
open Go.Bvm.YtfcknednlkfmpaaGreatDoorTL
theorem r68 : run tbl 80 11 l68 ⟨158520, putM P68 t6⟩ (memoK 168207 v68 Q68) = true := by decide +kernel
theorem w68 : wfM 158520 168207 P68 Q68 = true := by decide +kernel
theorem r69 : run tbl 80 13 l69 ⟨168208, putM P69 t6⟩ (memoK 172725 v69 Q69) = true := by decide +kernel
theorem w69 : wfM 168208 172725 P69 Q69 = true := by decide +kernel
theorem r70 : run tbl 80 10 l70 ⟨172726, putM P70 t6⟩ (memoK 172914 v70 Q70) = true := by decide +kernel
theorem w70 : wfM 172726 172914 P70 Q70 = true := by decide +kernel
end Go.Bvm.YtfcknednlkfmpaaGreatDoorMAnswerLong
