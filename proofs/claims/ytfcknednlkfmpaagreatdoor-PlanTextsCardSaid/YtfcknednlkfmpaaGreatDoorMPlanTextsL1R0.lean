/- Calls of the law PlanTexts, run apart. Conditions: none. -/
import Derived.Test.YtfcknednlkfmpaaGreatDoorMPlanTextsD
import Derived.Test.YtfcknednlkfmpaaGreatDoorTP
set_option maxRecDepth 100000
namespace Go.Bvm.YtfcknednlkfmpaaGreatDoorMPlanTexts
open Go.Bvm.YtfcknednlkfmpaaGreatDoorTP
theorem r0 : run tbl 80 21 l0 ⟨7, putM P0 t6⟩ (memoK 258 v0 Q0) = true := by decide +kernel
theorem w0 : wfM 7 258 P0 Q0 = true := by decide +kernel
theorem r1 : run tbl 80 33 l1 ⟨712, putM P1 t6⟩ (memoK 876 v1 Q1) = true := by decide +kernel
theorem w1 : wfM 712 876 P1 Q1 = true := by decide +kernel
theorem r2 : run tbl 80 33 l2 ⟨1099, putM P2 t6⟩ (memoK 1275 v2 Q2) = true := by decide +kernel
theorem w2 : wfM 1099 1275 P2 Q2 = true := by decide +kernel
theorem r3 : run tbl 80 33 l3 ⟨1498, putM P3 t6⟩ (memoK 1666 v3 Q3) = true := by decide +kernel
theorem w3 : wfM 1498 1666 P3 Q3 = true := by decide +kernel
theorem r4 : run tbl 80 10 l4 ⟨1889, putM P4 t6⟩ (memoK 2039 v4 Q4) = true := by decide +kernel
theorem w4 : wfM 1889 2039 P4 Q4 = true := by decide +kernel
theorem r5 : run tbl 80 248 l5 ⟨2120, putM P5 t6⟩ (memoK 2165 v5 Q5) = true := by decide +kernel
theorem w5 : wfM 2120 2165 P5 Q5 = true := by decide +kernel
theorem r7 : run tbl 80 248 l7 ⟨2703, putM P7 t6⟩ (memoK 2748 v7 Q7) = true := by decide +kernel
theorem w7 : wfM 2703 2748 P7 Q7 = true := by decide +kernel
theorem r9 : run tbl 80 248 l9 ⟨3516, putM P9 t6⟩ (memoK 3561 v9 Q9) = true := by decide +kernel
theorem w9 : wfM 3516 3561 P9 Q9 = true := by decide +kernel
theorem r11 : run tbl 80 187 l11 ⟨4182, putM P11 t6⟩ (memoK 4274 v11 Q11) = true := by decide +kernel
theorem w11 : wfM 4182 4274 P11 Q11 = true := by decide +kernel
theorem r13 : run tbl 80 187 l13 ⟨4763, putM P13 t6⟩ (memoK 4855 v13 Q13) = true := by decide +kernel
theorem w13 : wfM 4763 4855 P13 Q13 = true := by decide +kernel
theorem r15 : run tbl 80 187 l15 ⟨5356, putM P15 t6⟩ (memoK 5448 v15 Q15) = true := by decide +kernel
theorem w15 : wfM 5356 5448 P15 Q15 = true := by decide +kernel
theorem r17 : run tbl 80 187 l17 ⟨6084, putM P17 t6⟩ (memoK 6205 v17 Q17) = true := by decide +kernel
theorem w17 : wfM 6084 6205 P17 Q17 = true := by decide +kernel
theorem r19 : run tbl 80 187 l19 ⟨6745, putM P19 t6⟩ (memoK 6866 v19 Q19) = true := by decide +kernel
theorem w19 : wfM 6745 6866 P19 Q19 = true := by decide +kernel
theorem r21 : run tbl 80 187 l21 ⟨7418, putM P21 t6⟩ (memoK 7539 v21 Q21) = true := by decide +kernel
theorem w21 : wfM 7418 7539 P21 Q21 = true := by decide +kernel
theorem r23 : run tbl 80 187 l23 ⟨8206, putM P23 t6⟩ (memoK 8327 v23 Q23) = true := by decide +kernel
theorem w23 : wfM 8206 8327 P23 Q23 = true := by decide +kernel
theorem r25 : run tbl 80 187 l25 ⟨8846, putM P25 t6⟩ (memoK 8967 v25 Q25) = true := by decide +kernel
theorem w25 : wfM 8846 8967 P25 Q25 = true := by decide +kernel
theorem r27 : run tbl 80 187 l27 ⟨9498, putM P27 t6⟩ (memoK 9619 v27 Q27) = true := by decide +kernel
theorem w27 : wfM 9498 9619 P27 Q27 = true := by decide +kernel
theorem r29 : run tbl 80 187 l29 ⟨10245, putM P29 t6⟩ (memoK 10344 v29 Q29) = true := by decide +kernel
theorem w29 : wfM 10245 10344 P29 Q29 = true := by decide +kernel
theorem r30 : run tbl 80 187 l30 ⟨10671, putM P30 t6⟩ (memoK 10770 v30 Q30) = true := by decide +kernel
theorem w30 : wfM 10671 10770 P30 Q30 = true := by decide +kernel
theorem r31 : run tbl 80 187 l31 ⟨11156, putM P31 t6⟩ (memoK 11255 v31 Q31) = true := by decide +kernel
theorem w31 : wfM 11156 11255 P31 Q31 = true := by decide +kernel
theorem r32 : run tbl 80 10 l32 ⟨11518, putM P32 t6⟩ (memoK 11681 v32 Q32) = true := by decide +kernel
theorem w32 : wfM 11518 11681 P32 Q32 = true := by decide +kernel
theorem r33 : run tbl 80 248 l33 ⟨11784, putM P33 t6⟩ (memoK 11833 v33 Q33) = true := by decide +kernel
theorem w33 : wfM 11784 11833 P33 Q33 = true := by decide +kernel
theorem r35 : run tbl 80 248 l35 ⟨12416, putM P35 t6⟩ (memoK 12465 v35 Q35) = true := by decide +kernel
theorem w35 : wfM 12416 12465 P35 Q35 = true := by decide +kernel
theorem r37 : run tbl 80 248 l37 ⟨13266, putM P37 t6⟩ (memoK 13315 v37 Q37) = true := by decide +kernel
theorem w37 : wfM 13266 13315 P37 Q37 = true := by decide +kernel
end Go.Bvm.YtfcknednlkfmpaaGreatDoorMPlanTexts
