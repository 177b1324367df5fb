/- Calls of the law AnswerLong, run apart. Conditions: none. -/
import Derived.Test.YtfcknednlkfmpaaGreatDoorMAnswerLongD
import Derived.Test.YtfcknednlkfmpaaGreatDoorTL
set_option maxRecDepth 100000
namespace Go.Bvm.YtfcknednlkfmpaaGreatDoorMAnswerLong
open Go.Bvm.YtfcknednlkfmpaaGreatDoorTL
theorem r31 : run tbl 80 15 l31 ⟨44339, putM P31 t6⟩ (memoK 44703 v31 Q31) = true := by decide +kernel
theorem w31 : wfM 44339 44703 P31 Q31 = true := by decide +kernel
theorem r32 : run tbl 80 10 l32 ⟨44704, putM P32 t6⟩ (memoK 44804 v32 Q32) = true := by decide +kernel
theorem w32 : wfM 44704 44804 P32 Q32 = true := by decide +kernel
theorem r33 : run tbl 80 11 l33 ⟨44805, putM P33 t6⟩ (memoK 50820 v33 Q33) = true := by decide +kernel
theorem w33 : wfM 44805 50820 P33 Q33 = true := by decide +kernel
theorem r34 : run tbl 80 13 l34 ⟨50821, putM P34 t6⟩ (memoK 53271 v34 Q34) = true := by decide +kernel
theorem w34 : wfM 50821 53271 P34 Q34 = true := by decide +kernel
theorem r35 : run tbl 80 15 l35 ⟨53271, putM P35 t6⟩ (memoK 53675 v35 Q35) = true := by decide +kernel
theorem w35 : wfM 53271 53675 P35 Q35 = true := by decide +kernel
theorem r36 : run tbl 80 10 l36 ⟨53676, putM P36 t6⟩ (memoK 53784 v36 Q36) = true := by decide +kernel
theorem w36 : wfM 53676 53784 P36 Q36 = true := by decide +kernel
end Go.Bvm.YtfcknednlkfmpaaGreatDoorMAnswerLong
