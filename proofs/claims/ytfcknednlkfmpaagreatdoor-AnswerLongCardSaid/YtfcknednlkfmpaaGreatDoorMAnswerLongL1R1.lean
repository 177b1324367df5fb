/- Calls of the law AnswerLong, run apart. Conditions: none. -/
import Derived.Test.YtfcknednlkfmpaaGreatDoorMAnswerLongD
import Derived.Test.YtfcknednlkfmpaaGreatDoorTL
set_option maxRecDepth 100000
namespace Go.Bvm.YtfcknednlkfmpaaGreatDoorMAnswerLong
open Go.Bvm.YtfcknednlkfmpaaGreatDoorTL
theorem r17 : run tbl 80 11 l17 ⟨17805, putM P17 t6⟩ (memoK 21472 v17 Q17) = true := by decide +kernel
theorem w17 : wfM 17805 21472 P17 Q17 = true := by decide +kernel
theorem r18 : run tbl 80 13 l18 ⟨21473, putM P18 t6⟩ (memoK 22935 v18 Q18) = true := by decide +kernel
theorem w18 : wfM 21473 22935 P18 Q18 = true := by decide +kernel
theorem r19 : run tbl 80 15 l19 ⟨22935, putM P19 t6⟩ (memoK 23179 v19 Q19) = true := by decide +kernel
theorem w19 : wfM 22935 23179 P19 Q19 = true := by decide +kernel
theorem r20 : run tbl 80 10 l20 ⟨23180, putM P20 t6⟩ (memoK 23256 v20 Q20) = true := by decide +kernel
theorem w20 : wfM 23180 23256 P20 Q20 = true := by decide +kernel
theorem r21 : run tbl 80 11 l21 ⟨23257, putM P21 t6⟩ (memoK 27481 v21 Q21) = true := by decide +kernel
theorem w21 : wfM 23257 27481 P21 Q21 = true := by decide +kernel
theorem r22 : run tbl 80 13 l22 ⟨27482, putM P22 t6⟩ (memoK 29191 v22 Q22) = true := by decide +kernel
theorem w22 : wfM 27482 29191 P22 Q22 = true := by decide +kernel
theorem r23 : run tbl 80 15 l23 ⟨29191, putM P23 t6⟩ (memoK 29475 v23 Q23) = true := by decide +kernel
theorem w23 : wfM 29191 29475 P23 Q23 = true := by decide +kernel
theorem r24 : run tbl 80 10 l24 ⟨29476, putM P24 t6⟩ (memoK 29560 v24 Q24) = true := by decide +kernel
theorem w24 : wfM 29476 29560 P24 Q24 = true := by decide +kernel
end Go.Bvm.YtfcknednlkfmpaaGreatDoorMAnswerLong
