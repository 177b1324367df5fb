/- Calls of the law VarsTypes, run apart. Conditions: none. -/
import Derived.Test.YtjplhnnijolpnaaGreatDoorMVarsTypesD
import Derived.Test.YtjplhnnijolpnaaGreatDoorTV
set_option maxRecDepth 100000
namespace Go.Bvm.YtjplhnnijolpnaaGreatDoorMVarsTypes
theorem r0 : run Go.Bvm.YtjplhnnijolpnaaGreatDoorTV.tbl 80 19 l0 ⟨73, putM P0 t6⟩ (memoK 152 v0 Q0) = true := by decide +kernel
theorem w0 : wfM 73 152 P0 Q0 = true := by decide +kernel
theorem r1 : run Go.Bvm.YtjplhnnijolpnaaGreatDoorTV.tbl 80 19 l1 ⟨160, putM P1 t6⟩ (memoK 246 v1 Q1) = true := by decide +kernel
theorem w1 : wfM 160 246 P1 Q1 = true := by decide +kernel
theorem r2 : run Go.Bvm.YtjplhnnijolpnaaGreatDoorTV.tbl 80 19 l2 ⟨257, putM P2 t6⟩ (memoK 347 v2 Q2) = true := by decide +kernel
theorem w2 : wfM 257 347 P2 Q2 = true := by decide +kernel
theorem r3 : run Go.Bvm.YtjplhnnijolpnaaGreatDoorTV.tbl 80 19 l3 ⟨358, putM P3 t6⟩ (memoK 442 v3 Q3) = true := by decide +kernel
theorem w3 : wfM 358 442 P3 Q3 = true := by decide +kernel
theorem r4 : run Go.Bvm.YtjplhnnijolpnaaGreatDoorTV.tbl 80 19 l4 ⟨450, putM P4 t6⟩ (memoK 535 v4 Q4) = true := by decide +kernel
theorem w4 : wfM 450 535 P4 Q4 = true := by decide +kernel
theorem r5 : run Go.Bvm.YtjplhnnijolpnaaGreatDoorTV.tbl 80 19 l5 ⟨544, putM P5 t6⟩ (memoK 633 v5 Q5) = true := by decide +kernel
theorem w5 : wfM 544 633 P5 Q5 = true := by decide +kernel
theorem r6 : run Go.Bvm.YtjplhnnijolpnaaGreatDoorTV.tbl 80 19 l6 ⟨642, putM P6 t6⟩ (memoK 726 v6 Q6) = true := by decide +kernel
theorem w6 : wfM 642 726 P6 Q6 = true := by decide +kernel
theorem r7 : run Go.Bvm.YtjplhnnijolpnaaGreatDoorTV.tbl 80 19 l7 ⟨734, putM P7 t6⟩ (memoK 819 v7 Q7) = true := by decide +kernel
theorem w7 : wfM 734 819 P7 Q7 = true := by decide +kernel
theorem r8 : run Go.Bvm.YtjplhnnijolpnaaGreatDoorTV.tbl 80 19 l8 ⟨828, putM P8 t6⟩ (memoK 917 v8 Q8) = true := by decide +kernel
theorem w8 : wfM 828 917 P8 Q8 = true := by decide +kernel
theorem r9 : run Go.Bvm.YtjplhnnijolpnaaGreatDoorTV.tbl 80 19 l9 ⟨926, putM P9 t6⟩ (memoK 1010 v9 Q9) = true := by decide +kernel
theorem w9 : wfM 926 1010 P9 Q9 = true := by decide +kernel
theorem r10 : run Go.Bvm.YtjplhnnijolpnaaGreatDoorTV.tbl 80 19 l10 ⟨1018, putM P10 t6⟩ (memoK 1105 v10 Q10) = true := by decide +kernel
theorem w10 : wfM 1018 1105 P10 Q10 = true := by decide +kernel
theorem r11 : run Go.Bvm.YtjplhnnijolpnaaGreatDoorTV.tbl 80 19 l11 ⟨1117, putM P11 t6⟩ (memoK 1208 v11 Q11) = true := by decide +kernel
theorem w11 : wfM 1117 1208 P11 Q11 = true := by decide +kernel
theorem r12 : run Go.Bvm.YtjplhnnijolpnaaGreatDoorTV.tbl 80 19 l12 ⟨1220, putM P12 t6⟩ (memoK 1304 v12 Q12) = true := by decide +kernel
theorem w12 : wfM 1220 1304 P12 Q12 = true := by decide +kernel
theorem r13 : run Go.Bvm.YtjplhnnijolpnaaGreatDoorTV.tbl 80 19 l13 ⟨1312, putM P13 t6⟩ (memoK 1397 v13 Q13) = true := by decide +kernel
theorem w13 : wfM 1312 1397 P13 Q13 = true := by decide +kernel
theorem r14 : run Go.Bvm.YtjplhnnijolpnaaGreatDoorTV.tbl 80 19 l14 ⟨1406, putM P14 t6⟩ (memoK 1495 v14 Q14) = true := by decide +kernel
theorem w14 : wfM 1406 1495 P14 Q14 = true := by decide +kernel
theorem r15 : run Go.Bvm.YtjplhnnijolpnaaGreatDoorTV.tbl 80 19 l15 ⟨1504, putM P15 t6⟩ (memoK 1588 v15 Q15) = true := by decide +kernel
theorem w15 : wfM 1504 1588 P15 Q15 = true := by decide +kernel
theorem r16 : run Go.Bvm.YtjplhnnijolpnaaGreatDoorTV.tbl 80 19 l16 ⟨1638, putM P16 t6⟩ (memoK 1719 v16 Q16) = true := by decide +kernel
theorem w16 : wfM 1638 1719 P16 Q16 = true := by decide +kernel
theorem r17 : run Go.Bvm.YtjplhnnijolpnaaGreatDoorTV.tbl 80 19 l17 ⟨1727, putM P17 t6⟩ (memoK 1813 v17 Q17) = true := by decide +kernel
theorem w17 : wfM 1727 1813 P17 Q17 = true := by decide +kernel
theorem r18 : run Go.Bvm.YtjplhnnijolpnaaGreatDoorTV.tbl 80 19 l18 ⟨1821, putM P18 t6⟩ (memoK 1911 v18 Q18) = true := by decide +kernel
theorem w18 : wfM 1821 1911 P18 Q18 = true := by decide +kernel
theorem r19 : run Go.Bvm.YtjplhnnijolpnaaGreatDoorTV.tbl 80 19 l19 ⟨1919, putM P19 t6⟩ (memoK 2005 v19 Q19) = true := by decide +kernel
theorem w19 : wfM 1919 2005 P19 Q19 = true := by decide +kernel
theorem r20 : run Go.Bvm.YtjplhnnijolpnaaGreatDoorTV.tbl 80 19 l20 ⟨2013, putM P20 t6⟩ (memoK 2100 v20 Q20) = true := by decide +kernel
theorem w20 : wfM 2013 2100 P20 Q20 = true := by decide +kernel
theorem r21 : run Go.Bvm.YtjplhnnijolpnaaGreatDoorTV.tbl 80 19 l21 ⟨2109, putM P21 t6⟩ (memoK 2200 v21 Q21) = true := by decide +kernel
theorem w21 : wfM 2109 2200 P21 Q21 = true := by decide +kernel
theorem r22 : run Go.Bvm.YtjplhnnijolpnaaGreatDoorTV.tbl 80 19 l22 ⟨2209, putM P22 t6⟩ (memoK 2295 v22 Q22) = true := by decide +kernel
theorem w22 : wfM 2209 2295 P22 Q22 = true := by decide +kernel
theorem r23 : run Go.Bvm.YtjplhnnijolpnaaGreatDoorTV.tbl 80 19 l23 ⟨2303, putM P23 t6⟩ (memoK 2390 v23 Q23) = true := by decide +kernel
theorem w23 : wfM 2303 2390 P23 Q23 = true := by decide +kernel
theorem r24 : run Go.Bvm.YtjplhnnijolpnaaGreatDoorTV.tbl 80 19 l24 ⟨2399, putM P24 t6⟩ (memoK 2490 v24 Q24) = true := by decide +kernel
theorem w24 : wfM 2399 2490 P24 Q24 = true := by decide +kernel
theorem r25 : run Go.Bvm.YtjplhnnijolpnaaGreatDoorTV.tbl 80 19 l25 ⟨2499, putM P25 t6⟩ (memoK 2585 v25 Q25) = true := by decide +kernel
theorem w25 : wfM 2499 2585 P25 Q25 = true := by decide +kernel
theorem r26 : run Go.Bvm.YtjplhnnijolpnaaGreatDoorTV.tbl 80 19 l26 ⟨2593, putM P26 t6⟩ (memoK 2682 v26 Q26) = true := by decide +kernel
theorem w26 : wfM 2593 2682 P26 Q26 = true := by decide +kernel
theorem r27 : run Go.Bvm.YtjplhnnijolpnaaGreatDoorTV.tbl 80 19 l27 ⟨2694, putM P27 t6⟩ (memoK 2787 v27 Q27) = true := by decide +kernel
theorem w27 : wfM 2694 2787 P27 Q27 = true := by decide +kernel
theorem r28 : run Go.Bvm.YtjplhnnijolpnaaGreatDoorTV.tbl 80 19 l28 ⟨2799, putM P28 t6⟩ (memoK 2885 v28 Q28) = true := by decide +kernel
theorem w28 : wfM 2799 2885 P28 Q28 = true := by decide +kernel
theorem r29 : run Go.Bvm.YtjplhnnijolpnaaGreatDoorTV.tbl 80 19 l29 ⟨2893, putM P29 t6⟩ (memoK 2980 v29 Q29) = true := by decide +kernel
theorem w29 : wfM 2893 2980 P29 Q29 = true := by decide +kernel
theorem r30 : run Go.Bvm.YtjplhnnijolpnaaGreatDoorTV.tbl 80 19 l30 ⟨2989, putM P30 t6⟩ (memoK 3080 v30 Q30) = true := by decide +kernel
theorem w30 : wfM 2989 3080 P30 Q30 = true := by decide +kernel
theorem r31 : run Go.Bvm.YtjplhnnijolpnaaGreatDoorTV.tbl 80 19 l31 ⟨3089, putM P31 t6⟩ (memoK 3175 v31 Q31) = true := by decide +kernel
theorem w31 : wfM 3089 3175 P31 Q31 = true := by decide +kernel
theorem r32 : run Go.Bvm.YtjplhnnijolpnaaGreatDoorTV.tbl 80 19 l32 ⟨3223, putM P32 t6⟩ (memoK 3302 v32 Q32) = true := by decide +kernel
theorem w32 : wfM 3223 3302 P32 Q32 = true := by decide +kernel
theorem r33 : run Go.Bvm.YtjplhnnijolpnaaGreatDoorTV.tbl 80 19 l33 ⟨3310, putM P33 t6⟩ (memoK 3396 v33 Q33) = true := by decide +kernel
theorem w33 : wfM 3310 3396 P33 Q33 = true := by decide +kernel
theorem r34 : run Go.Bvm.YtjplhnnijolpnaaGreatDoorTV.tbl 80 19 l34 ⟨3407, putM P34 t6⟩ (memoK 3497 v34 Q34) = true := by decide +kernel
theorem w34 : wfM 3407 3497 P34 Q34 = true := by decide +kernel
theorem r35 : run Go.Bvm.YtjplhnnijolpnaaGreatDoorTV.tbl 80 19 l35 ⟨3508, putM P35 t6⟩ (memoK 3592 v35 Q35) = true := by decide +kernel
theorem w35 : wfM 3508 3592 P35 Q35 = true := by decide +kernel
theorem r36 : run Go.Bvm.YtjplhnnijolpnaaGreatDoorTV.tbl 80 19 l36 ⟨3600, putM P36 t6⟩ (memoK 3685 v36 Q36) = true := by decide +kernel
theorem w36 : wfM 3600 3685 P36 Q36 = true := by decide +kernel
theorem r37 : run Go.Bvm.YtjplhnnijolpnaaGreatDoorTV.tbl 80 19 l37 ⟨3694, putM P37 t6⟩ (memoK 3783 v37 Q37) = true := by decide +kernel
theorem w37 : wfM 3694 3783 P37 Q37 = true := by decide +kernel
theorem r38 : run Go.Bvm.YtjplhnnijolpnaaGreatDoorTV.tbl 80 19 l38 ⟨3792, putM P38 t6⟩ (memoK 3876 v38 Q38) = true := by decide +kernel
theorem w38 : wfM 3792 3876 P38 Q38 = true := by decide +kernel
theorem r39 : run Go.Bvm.YtjplhnnijolpnaaGreatDoorTV.tbl 80 19 l39 ⟨3884, putM P39 t6⟩ (memoK 3969 v39 Q39) = true := by decide +kernel
theorem w39 : wfM 3884 3969 P39 Q39 = true := by decide +kernel
theorem r40 : run Go.Bvm.YtjplhnnijolpnaaGreatDoorTV.tbl 80 19 l40 ⟨3978, putM P40 t6⟩ (memoK 4067 v40 Q40) = true := by decide +kernel
theorem w40 : wfM 3978 4067 P40 Q40 = true := by decide +kernel
theorem r41 : run Go.Bvm.YtjplhnnijolpnaaGreatDoorTV.tbl 80 19 l41 ⟨4076, putM P41 t6⟩ (memoK 4160 v41 Q41) = true := by decide +kernel
theorem w41 : wfM 4076 4160 P41 Q41 = true := by decide +kernel
theorem r42 : run Go.Bvm.YtjplhnnijolpnaaGreatDoorTV.tbl 80 19 l42 ⟨4168, putM P42 t6⟩ (memoK 4253 v42 Q42) = true := by decide +kernel
theorem w42 : wfM 4168 4253 P42 Q42 = true := by decide +kernel
theorem r43 : run Go.Bvm.YtjplhnnijolpnaaGreatDoorTV.tbl 80 19 l43 ⟨4262, putM P43 t6⟩ (memoK 4351 v43 Q43) = true := by decide +kernel
theorem w43 : wfM 4262 4351 P43 Q43 = true := by decide +kernel
theorem r44 : run Go.Bvm.YtjplhnnijolpnaaGreatDoorTV.tbl 80 19 l44 ⟨4360, putM P44 t6⟩ (memoK 4444 v44 Q44) = true := by decide +kernel
theorem w44 : wfM 4360 4444 P44 Q44 = true := by decide +kernel
theorem r45 : run Go.Bvm.YtjplhnnijolpnaaGreatDoorTV.tbl 80 19 l45 ⟨4452, putM P45 t6⟩ (memoK 4539 v45 Q45) = true := by decide +kernel
theorem w45 : wfM 4452 4539 P45 Q45 = true := by decide +kernel
theorem r46 : run Go.Bvm.YtjplhnnijolpnaaGreatDoorTV.tbl 80 19 l46 ⟨4551, putM P46 t6⟩ (memoK 4642 v46 Q46) = true := by decide +kernel
theorem w46 : wfM 4551 4642 P46 Q46 = true := by decide +kernel
theorem r47 : run Go.Bvm.YtjplhnnijolpnaaGreatDoorTV.tbl 80 19 l47 ⟨4654, putM P47 t6⟩ (memoK 4738 v47 Q47) = true := by decide +kernel
theorem w47 : wfM 4654 4738 P47 Q47 = true := by decide +kernel
theorem r48 : run Go.Bvm.YtjplhnnijolpnaaGreatDoorTV.tbl 80 19 l48 ⟨4788, putM P48 t6⟩ (memoK 4869 v48 Q48) = true := by decide +kernel
theorem w48 : wfM 4788 4869 P48 Q48 = true := by decide +kernel
theorem r49 : run Go.Bvm.YtjplhnnijolpnaaGreatDoorTV.tbl 80 19 l49 ⟨4877, putM P49 t6⟩ (memoK 4963 v49 Q49) = true := by decide +kernel
theorem w49 : wfM 4877 4963 P49 Q49 = true := by decide +kernel
theorem r50 : run Go.Bvm.YtjplhnnijolpnaaGreatDoorTV.tbl 80 19 l50 ⟨4971, putM P50 t6⟩ (memoK 5061 v50 Q50) = true := by decide +kernel
theorem w50 : wfM 4971 5061 P50 Q50 = true := by decide +kernel
theorem r51 : run Go.Bvm.YtjplhnnijolpnaaGreatDoorTV.tbl 80 19 l51 ⟨5069, putM P51 t6⟩ (memoK 5155 v51 Q51) = true := by decide +kernel
theorem w51 : wfM 5069 5155 P51 Q51 = true := by decide +kernel
theorem r52 : run Go.Bvm.YtjplhnnijolpnaaGreatDoorTV.tbl 80 19 l52 ⟨5163, putM P52 t6⟩ (memoK 5250 v52 Q52) = true := by decide +kernel
theorem w52 : wfM 5163 5250 P52 Q52 = true := by decide +kernel
theorem r53 : run Go.Bvm.YtjplhnnijolpnaaGreatDoorTV.tbl 80 19 l53 ⟨5259, putM P53 t6⟩ (memoK 5350 v53 Q53) = true := by decide +kernel
theorem w53 : wfM 5259 5350 P53 Q53 = true := by decide +kernel
theorem r54 : run Go.Bvm.YtjplhnnijolpnaaGreatDoorTV.tbl 80 19 l54 ⟨5359, putM P54 t6⟩ (memoK 5445 v54 Q54) = true := by decide +kernel
theorem w54 : wfM 5359 5445 P54 Q54 = true := by decide +kernel
theorem r55 : run Go.Bvm.YtjplhnnijolpnaaGreatDoorTV.tbl 80 19 l55 ⟨5453, putM P55 t6⟩ (memoK 5540 v55 Q55) = true := by decide +kernel
theorem w55 : wfM 5453 5540 P55 Q55 = true := by decide +kernel
theorem r56 : run Go.Bvm.YtjplhnnijolpnaaGreatDoorTV.tbl 80 19 l56 ⟨5549, putM P56 t6⟩ (memoK 5640 v56 Q56) = true := by decide +kernel
theorem w56 : wfM 5549 5640 P56 Q56 = true := by decide +kernel
theorem r57 : run Go.Bvm.YtjplhnnijolpnaaGreatDoorTV.tbl 80 19 l57 ⟨5649, putM P57 t6⟩ (memoK 5735 v57 Q57) = true := by decide +kernel
theorem w57 : wfM 5649 5735 P57 Q57 = true := by decide +kernel
theorem r58 : run Go.Bvm.YtjplhnnijolpnaaGreatDoorTV.tbl 80 19 l58 ⟨5743, putM P58 t6⟩ (memoK 5830 v58 Q58) = true := by decide +kernel
theorem w58 : wfM 5743 5830 P58 Q58 = true := by decide +kernel
theorem r59 : run Go.Bvm.YtjplhnnijolpnaaGreatDoorTV.tbl 80 19 l59 ⟨5839, putM P59 t6⟩ (memoK 5930 v59 Q59) = true := by decide +kernel
theorem w59 : wfM 5839 5930 P59 Q59 = true := by decide +kernel
theorem r60 : run Go.Bvm.YtjplhnnijolpnaaGreatDoorTV.tbl 80 19 l60 ⟨5939, putM P60 t6⟩ (memoK 6025 v60 Q60) = true := by decide +kernel
theorem w60 : wfM 5939 6025 P60 Q60 = true := by decide +kernel
theorem r61 : run Go.Bvm.YtjplhnnijolpnaaGreatDoorTV.tbl 80 19 l61 ⟨6033, putM P61 t6⟩ (memoK 6122 v61 Q61) = true := by decide +kernel
theorem w61 : wfM 6033 6122 P61 Q61 = true := by decide +kernel
theorem r62 : run Go.Bvm.YtjplhnnijolpnaaGreatDoorTV.tbl 80 19 l62 ⟨6134, putM P62 t6⟩ (memoK 6227 v62 Q62) = true := by decide +kernel
theorem w62 : wfM 6134 6227 P62 Q62 = true := by decide +kernel
theorem r63 : run Go.Bvm.YtjplhnnijolpnaaGreatDoorTV.tbl 80 19 l63 ⟨6239, putM P63 t6⟩ (memoK 6325 v63 Q63) = true := by decide +kernel
theorem w63 : wfM 6239 6325 P63 Q63 = true := by decide +kernel
theorem r64 : run Go.Bvm.YtjplhnnijolpnaaGreatDoorTV.tbl 80 19 l64 ⟨6373, putM P64 t6⟩ (memoK 6452 v64 Q64) = true := by decide +kernel
theorem w64 : wfM 6373 6452 P64 Q64 = true := by decide +kernel
theorem r65 : run Go.Bvm.YtjplhnnijolpnaaGreatDoorTV.tbl 80 19 l65 ⟨6460, putM P65 t6⟩ (memoK 6546 v65 Q65) = true := by decide +kernel
theorem w65 : wfM 6460 6546 P65 Q65 = true := by decide +kernel
theorem r66 : run Go.Bvm.YtjplhnnijolpnaaGreatDoorTV.tbl 80 19 l66 ⟨6557, putM P66 t6⟩ (memoK 6647 v66 Q66) = true := by decide +kernel
theorem w66 : wfM 6557 6647 P66 Q66 = true := by decide +kernel
theorem r67 : run Go.Bvm.YtjplhnnijolpnaaGreatDoorTV.tbl 80 19 l67 ⟨6658, putM P67 t6⟩ (memoK 6742 v67 Q67) = true := by decide +kernel
theorem w67 : wfM 6658 6742 P67 Q67 = true := by decide +kernel
theorem r68 : run Go.Bvm.YtjplhnnijolpnaaGreatDoorTV.tbl 80 19 l68 ⟨6750, putM P68 t6⟩ (memoK 6837 v68 Q68) = true := by decide +kernel
theorem w68 : wfM 6750 6837 P68 Q68 = true := by decide +kernel
theorem r69 : run Go.Bvm.YtjplhnnijolpnaaGreatDoorTV.tbl 80 19 l69 ⟨6849, putM P69 t6⟩ (memoK 6940 v69 Q69) = true := by decide +kernel
theorem w69 : wfM 6849 6940 P69 Q69 = true := by decide +kernel
theorem r70 : run Go.Bvm.YtjplhnnijolpnaaGreatDoorTV.tbl 80 19 l70 ⟨6952, putM P70 t6⟩ (memoK 7036 v70 Q70) = true := by decide +kernel
theorem w70 : wfM 6952 7036 P70 Q70 = true := by decide +kernel
theorem r71 : run Go.Bvm.YtjplhnnijolpnaaGreatDoorTV.tbl 80 19 l71 ⟨7044, putM P71 t6⟩ (memoK 7131 v71 Q71) = true := by decide +kernel
theorem w71 : wfM 7044 7131 P71 Q71 = true := by decide +kernel
theorem r72 : run Go.Bvm.YtjplhnnijolpnaaGreatDoorTV.tbl 80 19 l72 ⟨7143, putM P72 t6⟩ (memoK 7234 v72 Q72) = true := by decide +kernel
theorem w72 : wfM 7143 7234 P72 Q72 = true := by decide +kernel
theorem r73 : run Go.Bvm.YtjplhnnijolpnaaGreatDoorTV.tbl 80 19 l73 ⟨7246, putM P73 t6⟩ (memoK 7330 v73 Q73) = true := by decide +kernel
theorem w73 : wfM 7246 7330 P73 Q73 = true := by decide +kernel
end Go.Bvm.YtjplhnnijolpnaaGreatDoorMVarsTypes
