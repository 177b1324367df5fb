/- Calls of the law PlanTexts, run apart. Conditions: none. -/
import Derived.Test.YtfcknednlkfmpaaGreatDoorMPlanTextsD
import Derived.Test.YtfcknednlkfmpaaGreatDoorMPlanTextsL1
set_option maxRecDepth 100000
namespace Go.Bvm.YtfcknednlkfmpaaGreatDoorMPlanTexts
open Go.Bvm.YtfcknednlkfmpaaGreatDoorTP
theorem r6 : run tbl1 80 137 l6 ⟨2039, putM P6 t6⟩ (memoK 2300 v6 Q6) = true := by decide +kernel
theorem w6 : wfM 2039 2300 P6 Q6 = true := by decide +kernel
theorem r8 : run tbl1 80 137 l8 ⟨2622, putM P8 t6⟩ (memoK 2883 v8 Q8) = true := by decide +kernel
theorem w8 : wfM 2622 2883 P8 Q8 = true := by decide +kernel
theorem r10 : run tbl1 80 137 l10 ⟨3435, putM P10 t6⟩ (memoK 3696 v10 Q10) = true := by decide +kernel
theorem w10 : wfM 3435 3696 P10 Q10 = true := by decide +kernel
theorem r12 : run tbl1 80 22 l12 ⟨4120, putM P12 t6⟩ (memoK 4611 v12 Q12) = true := by decide +kernel
theorem w12 : wfM 4120 4611 P12 Q12 = true := by decide +kernel
theorem r14 : run tbl1 80 22 l14 ⟨4701, putM P14 t6⟩ (memoK 5204 v14 Q14) = true := by decide +kernel
theorem w14 : wfM 4701 5204 P14 Q14 = true := by decide +kernel
theorem r16 : run tbl1 80 22 l16 ⟨5294, putM P16 t6⟩ (memoK 5789 v16 Q16) = true := by decide +kernel
theorem w16 : wfM 5294 5789 P16 Q16 = true := by decide +kernel
theorem r18 : run tbl1 80 22 l18 ⟨6002, putM P18 t6⟩ (memoK 6547 v18 Q18) = true := by decide +kernel
theorem w18 : wfM 6002 6547 P18 Q18 = true := by decide +kernel
theorem r20 : run tbl1 80 22 l20 ⟨6663, putM P20 t6⟩ (memoK 7220 v20 Q20) = true := by decide +kernel
theorem w20 : wfM 6663 7220 P20 Q20 = true := by decide +kernel
theorem r22 : run tbl1 80 22 l22 ⟨7336, putM P22 t6⟩ (memoK 7885 v22 Q22) = true := by decide +kernel
theorem w22 : wfM 7336 7885 P22 Q22 = true := by decide +kernel
theorem r24 : run tbl1 80 22 l24 ⟨8124, putM P24 t6⟩ (memoK 8652 v24 Q24) = true := by decide +kernel
theorem w24 : wfM 8124 8652 P24 Q24 = true := by decide +kernel
theorem r26 : run tbl1 80 22 l26 ⟨8764, putM P26 t6⟩ (memoK 9304 v26 Q26) = true := by decide +kernel
theorem w26 : wfM 8764 9304 P26 Q26 = true := by decide +kernel
theorem r28 : run tbl1 80 22 l28 ⟨9416, putM P28 t6⟩ (memoK 9948 v28 Q28) = true := by decide +kernel
theorem w28 : wfM 9416 9948 P28 Q28 = true := by decide +kernel
theorem r34 : run tbl1 80 137 l34 ⟨11681, putM P34 t6⟩ (memoK 11999 v34 Q34) = true := by decide +kernel
theorem w34 : wfM 11681 11999 P34 Q34 = true := by decide +kernel
theorem r36 : run tbl1 80 137 l36 ⟨12313, putM P36 t6⟩ (memoK 12631 v36 Q36) = true := by decide +kernel
theorem w36 : wfM 12313 12631 P36 Q36 = true := by decide +kernel
theorem r38 : run tbl1 80 137 l38 ⟨13163, putM P38 t6⟩ (memoK 13481 v38 Q38) = true := by decide +kernel
theorem w38 : wfM 13163 13481 P38 Q38 = true := by decide +kernel
end Go.Bvm.YtfcknednlkfmpaaGreatDoorMPlanTexts
