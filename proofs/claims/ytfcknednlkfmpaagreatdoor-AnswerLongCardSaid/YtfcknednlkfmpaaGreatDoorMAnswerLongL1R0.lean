/- Calls of the law AnswerLong, run apart. Conditions: none. -/
import Derived.Test.YtfcknednlkfmpaaGreatDoorMAnswerLongD
import Derived.Test.YtfcknednlkfmpaaGreatDoorTL
set_option maxRecDepth 100000
namespace Go.Bvm.YtfcknednlkfmpaaGreatDoorMAnswerLong
open Go.Bvm.YtfcknednlkfmpaaGreatDoorTL
theorem r0 : run tbl 80 10 l0 ⟨4080, putM P0 t6⟩ (memoK 4116 v0 Q0) = true := by decide +kernel
theorem w0 : wfM 4080 4116 P0 Q0 = true := by decide +kernel
theorem r1 : run tbl 80 11 l1 ⟨4117, putM P1 t6⟩ (memoK 5756 v1 Q1) = true := by decide +kernel
theorem w1 : wfM 4117 5756 P1 Q1 = true := by decide +kernel
theorem r2 : run tbl 80 13 l2 ⟨5757, putM P2 t6⟩ (memoK 6231 v2 Q2) = true := by decide +kernel
theorem w2 : wfM 5757 6231 P2 Q2 = true := by decide +kernel
theorem r3 : run tbl 80 15 l3 ⟨6231, putM P3 t6⟩ (memoK 6315 v3 Q3) = true := by decide +kernel
theorem w3 : wfM 6231 6315 P3 Q3 = true := by decide +kernel
theorem r4 : run tbl 80 10 l4 ⟨6316, putM P4 t6⟩ (memoK 6360 v4 Q4) = true := by decide +kernel
theorem w4 : wfM 6316 6360 P4 Q4 = true := by decide +kernel
theorem r5 : run tbl 80 11 l5 ⟨6361, putM P5 t6⟩ (memoK 8477 v5 Q5) = true := by decide +kernel
theorem w5 : wfM 6361 8477 P5 Q5 = true := by decide +kernel
theorem r6 : run tbl 80 13 l6 ⟨8478, putM P6 t6⟩ (memoK 9199 v6 Q6) = true := by decide +kernel
theorem w6 : wfM 8478 9199 P6 Q6 = true := by decide +kernel
theorem r7 : run tbl 80 15 l7 ⟨9199, putM P7 t6⟩ (memoK 9323 v7 Q7) = true := by decide +kernel
theorem w7 : wfM 9199 9323 P7 Q7 = true := by decide +kernel
theorem r8 : run tbl 80 10 l8 ⟨9324, putM P8 t6⟩ (memoK 9376 v8 Q8) = true := by decide +kernel
theorem w8 : wfM 9324 9376 P8 Q8 = true := by decide +kernel
theorem r9 : run tbl 80 11 l9 ⟨9377, putM P9 t6⟩ (memoK 11990 v9 Q9) = true := by decide +kernel
theorem w9 : wfM 9377 11990 P9 Q9 = true := by decide +kernel
theorem r10 : run tbl 80 13 l10 ⟨11991, putM P10 t6⟩ (memoK 12959 v10 Q10) = true := by decide +kernel
theorem w10 : wfM 11991 12959 P10 Q10 = true := by decide +kernel
theorem r11 : run tbl 80 15 l11 ⟨12959, putM P11 t6⟩ (memoK 13123 v11 Q11) = true := by decide +kernel
theorem w11 : wfM 12959 13123 P11 Q11 = true := by decide +kernel
theorem r12 : run tbl 80 10 l12 ⟨13124, putM P12 t6⟩ (memoK 13184 v12 Q12) = true := by decide +kernel
theorem w12 : wfM 13124 13184 P12 Q12 = true := by decide +kernel
theorem r13 : run tbl 80 11 l13 ⟨13185, putM P13 t6⟩ (memoK 16315 v13 Q13) = true := by decide +kernel
theorem w13 : wfM 13185 16315 P13 Q13 = true := by decide +kernel
theorem r14 : run tbl 80 13 l14 ⟨16316, putM P14 t6⟩ (memoK 17531 v14 Q14) = true := by decide +kernel
theorem w14 : wfM 16316 17531 P14 Q14 = true := by decide +kernel
theorem r15 : run tbl 80 15 l15 ⟨17531, putM P15 t6⟩ (memoK 17735 v15 Q15) = true := by decide +kernel
theorem w15 : wfM 17531 17735 P15 Q15 = true := by decide +kernel
theorem r16 : run tbl 80 10 l16 ⟨17736, putM P16 t6⟩ (memoK 17804 v16 Q16) = true := by decide +kernel
theorem w16 : wfM 17736 17804 P16 Q16 = true := by decide +kernel
end Go.Bvm.YtfcknednlkfmpaaGreatDoorMAnswerLong
