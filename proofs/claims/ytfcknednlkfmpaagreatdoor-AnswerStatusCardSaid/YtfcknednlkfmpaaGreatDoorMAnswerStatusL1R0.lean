/- Calls of the law AnswerStatus, run apart. Conditions: none. -/
import Derived.Test.YtfcknednlkfmpaaGreatDoorMAnswerStatusD
import Derived.Test.YtfcknednlkfmpaaGreatDoorTS
set_option maxRecDepth 100000
namespace Go.Bvm.YtfcknednlkfmpaaGreatDoorMAnswerStatus
open Go.Bvm.YtfcknednlkfmpaaGreatDoorTS
theorem r0 : run tbl 80 19 l0 ⟨235, putM P0 t6⟩ (memoK 690 v0 Q0) = true := by decide +kernel
theorem w0 : wfM 235 690 P0 Q0 = true := by decide +kernel
theorem r1 : run tbl 80 20 l1 ⟨691, putM P1 t6⟩ (memoK 843 v1 Q1) = true := by decide +kernel
theorem w1 : wfM 691 843 P1 Q1 = true := by decide +kernel
theorem r2 : run tbl 80 19 l2 ⟨852, putM P2 t6⟩ (memoK 1307 v2 Q2) = true := by decide +kernel
theorem w2 : wfM 852 1307 P2 Q2 = true := by decide +kernel
theorem r3 : run tbl 80 20 l3 ⟨1308, putM P3 t6⟩ (memoK 1460 v3 Q3) = true := by decide +kernel
theorem w3 : wfM 1308 1460 P3 Q3 = true := by decide +kernel
theorem r4 : run tbl 80 19 l4 ⟨1469, putM P4 t6⟩ (memoK 1924 v4 Q4) = true := by decide +kernel
theorem w4 : wfM 1469 1924 P4 Q4 = true := by decide +kernel
theorem r5 : run tbl 80 20 l5 ⟨1925, putM P5 t6⟩ (memoK 2077 v5 Q5) = true := by decide +kernel
theorem w5 : wfM 1925 2077 P5 Q5 = true := by decide +kernel
theorem r6 : run tbl 80 19 l6 ⟨2086, putM P6 t6⟩ (memoK 2541 v6 Q6) = true := by decide +kernel
theorem w6 : wfM 2086 2541 P6 Q6 = true := by decide +kernel
theorem r7 : run tbl 80 20 l7 ⟨2542, putM P7 t6⟩ (memoK 2694 v7 Q7) = true := by decide +kernel
theorem w7 : wfM 2542 2694 P7 Q7 = true := by decide +kernel
theorem r8 : run tbl 80 19 l8 ⟨2974, putM P8 t6⟩ (memoK 3352 v8 Q8) = true := by decide +kernel
theorem w8 : wfM 2974 3352 P8 Q8 = true := by decide +kernel
theorem r9 : run tbl 80 20 l9 ⟨3353, putM P9 t6⟩ (memoK 3428 v9 Q9) = true := by decide +kernel
theorem w9 : wfM 3353 3428 P9 Q9 = true := by decide +kernel
theorem r10 : run tbl 80 19 l10 ⟨3429, putM P10 t6⟩ (memoK 3807 v10 Q10) = true := by decide +kernel
theorem w10 : wfM 3429 3807 P10 Q10 = true := by decide +kernel
theorem r11 : run tbl 80 20 l11 ⟨3808, putM P11 t6⟩ (memoK 3883 v11 Q11) = true := by decide +kernel
theorem w11 : wfM 3808 3883 P11 Q11 = true := by decide +kernel
theorem r12 : run tbl 80 19 l12 ⟨3884, putM P12 t6⟩ (memoK 4262 v12 Q12) = true := by decide +kernel
theorem w12 : wfM 3884 4262 P12 Q12 = true := by decide +kernel
theorem r13 : run tbl 80 20 l13 ⟨4263, putM P13 t6⟩ (memoK 4338 v13 Q13) = true := by decide +kernel
theorem w13 : wfM 4263 4338 P13 Q13 = true := by decide +kernel
theorem r14 : run tbl 80 19 l14 ⟨4339, putM P14 t6⟩ (memoK 4717 v14 Q14) = true := by decide +kernel
theorem w14 : wfM 4339 4717 P14 Q14 = true := by decide +kernel
theorem r15 : run tbl 80 20 l15 ⟨4718, putM P15 t6⟩ (memoK 4793 v15 Q15) = true := by decide +kernel
theorem w15 : wfM 4718 4793 P15 Q15 = true := by decide +kernel
theorem r16 : run tbl 80 19 l16 ⟨5006, putM P16 t6⟩ (memoK 5376 v16 Q16) = true := by decide +kernel
theorem w16 : wfM 5006 5376 P16 Q16 = true := by decide +kernel
theorem r17 : run tbl 80 20 l17 ⟨5377, putM P17 t6⟩ (memoK 5452 v17 Q17) = true := by decide +kernel
theorem w17 : wfM 5377 5452 P17 Q17 = true := by decide +kernel
theorem r18 : run tbl 80 19 l18 ⟨5453, putM P18 t6⟩ (memoK 5823 v18 Q18) = true := by decide +kernel
theorem w18 : wfM 5453 5823 P18 Q18 = true := by decide +kernel
theorem r19 : run tbl 80 20 l19 ⟨5824, putM P19 t6⟩ (memoK 5899 v19 Q19) = true := by decide +kernel
theorem w19 : wfM 5824 5899 P19 Q19 = true := by decide +kernel
theorem r20 : run tbl 80 19 l20 ⟨5900, putM P20 t6⟩ (memoK 6270 v20 Q20) = true := by decide +kernel
theorem w20 : wfM 5900 6270 P20 Q20 = true := by decide +kernel
theorem r21 : run tbl 80 20 l21 ⟨6271, putM P21 t6⟩ (memoK 6346 v21 Q21) = true := by decide +kernel
theorem w21 : wfM 6271 6346 P21 Q21 = true := by decide +kernel
theorem r22 : run tbl 80 19 l22 ⟨6347, putM P22 t6⟩ (memoK 6717 v22 Q22) = true := by decide +kernel
theorem w22 : wfM 6347 6717 P22 Q22 = true := by decide +kernel
theorem r23 : run tbl 80 20 l23 ⟨6718, putM P23 t6⟩ (memoK 6793 v23 Q23) = true := by decide +kernel
theorem w23 : wfM 6718 6793 P23 Q23 = true := by decide +kernel
theorem r24 : run tbl 80 19 l24 ⟨7039, putM P24 t6⟩ (memoK 7494 v24 Q24) = true := by decide +kernel
theorem w24 : wfM 7039 7494 P24 Q24 = true := by decide +kernel
theorem r25 : run tbl 80 20 l25 ⟨7495, putM P25 t6⟩ (memoK 7647 v25 Q25) = true := by decide +kernel
theorem w25 : wfM 7495 7647 P25 Q25 = true := by decide +kernel
theorem r26 : run tbl 80 19 l26 ⟨7656, putM P26 t6⟩ (memoK 8111 v26 Q26) = true := by decide +kernel
theorem w26 : wfM 7656 8111 P26 Q26 = true := by decide +kernel
theorem r27 : run tbl 80 20 l27 ⟨8112, putM P27 t6⟩ (memoK 8264 v27 Q27) = true := by decide +kernel
theorem w27 : wfM 8112 8264 P27 Q27 = true := by decide +kernel
theorem r28 : run tbl 80 19 l28 ⟨8273, putM P28 t6⟩ (memoK 8728 v28 Q28) = true := by decide +kernel
theorem w28 : wfM 8273 8728 P28 Q28 = true := by decide +kernel
theorem r29 : run tbl 80 20 l29 ⟨8729, putM P29 t6⟩ (memoK 8881 v29 Q29) = true := by decide +kernel
theorem w29 : wfM 8729 8881 P29 Q29 = true := by decide +kernel
theorem r30 : run tbl 80 19 l30 ⟨8890, putM P30 t6⟩ (memoK 9345 v30 Q30) = true := by decide +kernel
theorem w30 : wfM 8890 9345 P30 Q30 = true := by decide +kernel
theorem r31 : run tbl 80 20 l31 ⟨9346, putM P31 t6⟩ (memoK 9498 v31 Q31) = true := by decide +kernel
theorem w31 : wfM 9346 9498 P31 Q31 = true := by decide +kernel
theorem r32 : run tbl 80 19 l32 ⟨9837, putM P32 t6⟩ (memoK 10460 v32 Q32) = true := by decide +kernel
theorem w32 : wfM 9837 10460 P32 Q32 = true := by decide +kernel
theorem r33 : run tbl 80 20 l33 ⟨10461, putM P33 t6⟩ (memoK 10589 v33 Q33) = true := by decide +kernel
theorem w33 : wfM 10461 10589 P33 Q33 = true := by decide +kernel
theorem r34 : run tbl 80 19 l34 ⟨10590, putM P34 t6⟩ (memoK 11213 v34 Q34) = true := by decide +kernel
theorem w34 : wfM 10590 11213 P34 Q34 = true := by decide +kernel
theorem r35 : run tbl 80 20 l35 ⟨11214, putM P35 t6⟩ (memoK 11342 v35 Q35) = true := by decide +kernel
theorem w35 : wfM 11214 11342 P35 Q35 = true := by decide +kernel
theorem r36 : run tbl 80 19 l36 ⟨11343, putM P36 t6⟩ (memoK 11966 v36 Q36) = true := by decide +kernel
theorem w36 : wfM 11343 11966 P36 Q36 = true := by decide +kernel
theorem r37 : run tbl 80 20 l37 ⟨11967, putM P37 t6⟩ (memoK 12095 v37 Q37) = true := by decide +kernel
theorem w37 : wfM 11967 12095 P37 Q37 = true := by decide +kernel
end Go.Bvm.YtfcknednlkfmpaaGreatDoorMAnswerStatus
