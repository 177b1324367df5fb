/- Calls of the law VarsMany, run apart. Conditions: none. -/
import Derived.Test.YtjplhnnijolpnaaGreatDoorMVarsManyD
import Derived.Test.YtjplhnnijolpnaaGreatDoorTV
set_option maxRecDepth 100000
namespace Go.Bvm.YtjplhnnijolpnaaGreatDoorMVarsMany
open Go.Bvm.YtjplhnnijolpnaaGreatDoorTV
theorem r0 : run tbl 80 19 l0 ⟨97, putM P0 t6⟩ (memoK 190 v0 Q0) = true := by decide +kernel
theorem w0 : wfM 97 190 P0 Q0 = true := by decide +kernel
theorem r1 : run tbl 80 19 l1 ⟨199, putM P1 t6⟩ (memoK 296 v1 Q1) = true := by decide +kernel
theorem w1 : wfM 199 296 P1 Q1 = true := by decide +kernel
theorem r2 : run tbl 80 19 l2 ⟨305, putM P2 t6⟩ (memoK 406 v2 Q2) = true := by decide +kernel
theorem w2 : wfM 305 406 P2 Q2 = true := by decide +kernel
theorem r3 : run tbl 80 19 l3 ⟨415, putM P3 t6⟩ (memoK 512 v3 Q3) = true := by decide +kernel
theorem w3 : wfM 415 512 P3 Q3 = true := by decide +kernel
theorem r4 : run tbl 80 19 l4 ⟨521, putM P4 t6⟩ (memoK 618 v4 Q4) = true := by decide +kernel
theorem w4 : wfM 521 618 P4 Q4 = true := by decide +kernel
theorem r5 : run tbl 80 19 l5 ⟨627, putM P5 t6⟩ (memoK 728 v5 Q5) = true := by decide +kernel
theorem w5 : wfM 627 728 P5 Q5 = true := by decide +kernel
theorem r6 : run tbl 80 19 l6 ⟨737, putM P6 t6⟩ (memoK 834 v6 Q6) = true := by decide +kernel
theorem w6 : wfM 737 834 P6 Q6 = true := by decide +kernel
theorem r7 : run tbl 80 19 l7 ⟨843, putM P7 t6⟩ (memoK 940 v7 Q7) = true := by decide +kernel
theorem w7 : wfM 843 940 P7 Q7 = true := by decide +kernel
theorem r8 : run tbl 80 19 l8 ⟨949, putM P8 t6⟩ (memoK 1050 v8 Q8) = true := by decide +kernel
theorem w8 : wfM 949 1050 P8 Q8 = true := by decide +kernel
theorem r9 : run tbl 80 19 l9 ⟨1059, putM P9 t6⟩ (memoK 1156 v9 Q9) = true := by decide +kernel
theorem w9 : wfM 1059 1156 P9 Q9 = true := by decide +kernel
theorem r10 : run tbl 80 19 l10 ⟨1165, putM P10 t6⟩ (memoK 1262 v10 Q10) = true := by decide +kernel
theorem w10 : wfM 1165 1262 P10 Q10 = true := by decide +kernel
theorem r11 : run tbl 80 19 l11 ⟨1271, putM P11 t6⟩ (memoK 1372 v11 Q11) = true := by decide +kernel
theorem w11 : wfM 1271 1372 P11 Q11 = true := by decide +kernel
theorem r12 : run tbl 80 19 l12 ⟨1381, putM P12 t6⟩ (memoK 1478 v12 Q12) = true := by decide +kernel
theorem w12 : wfM 1381 1478 P12 Q12 = true := by decide +kernel
theorem r13 : run tbl 80 19 l13 ⟨1487, putM P13 t6⟩ (memoK 1584 v13 Q13) = true := by decide +kernel
theorem w13 : wfM 1487 1584 P13 Q13 = true := by decide +kernel
theorem r14 : run tbl 80 19 l14 ⟨1593, putM P14 t6⟩ (memoK 1694 v14 Q14) = true := by decide +kernel
theorem w14 : wfM 1593 1694 P14 Q14 = true := by decide +kernel
theorem r15 : run tbl 80 19 l15 ⟨1703, putM P15 t6⟩ (memoK 1800 v15 Q15) = true := by decide +kernel
theorem w15 : wfM 1703 1800 P15 Q15 = true := by decide +kernel
theorem r16 : run tbl 80 19 l16 ⟨1859, putM P16 t6⟩ (memoK 1949 v16 Q16) = true := by decide +kernel
theorem w16 : wfM 1859 1949 P16 Q16 = true := by decide +kernel
theorem r17 : run tbl 80 19 l17 ⟨1955, putM P17 t6⟩ (memoK 2049 v17 Q17) = true := by decide +kernel
theorem w17 : wfM 1955 2049 P17 Q17 = true := by decide +kernel
theorem r18 : run tbl 80 19 l18 ⟨2055, putM P18 t6⟩ (memoK 2153 v18 Q18) = true := by decide +kernel
theorem w18 : wfM 2055 2153 P18 Q18 = true := by decide +kernel
theorem r19 : run tbl 80 19 l19 ⟨2159, putM P19 t6⟩ (memoK 2253 v19 Q19) = true := by decide +kernel
theorem w19 : wfM 2159 2253 P19 Q19 = true := by decide +kernel
theorem r20 : run tbl 80 19 l20 ⟨2259, putM P20 t6⟩ (memoK 2353 v20 Q20) = true := by decide +kernel
theorem w20 : wfM 2259 2353 P20 Q20 = true := by decide +kernel
theorem r21 : run tbl 80 19 l21 ⟨2359, putM P21 t6⟩ (memoK 2457 v21 Q21) = true := by decide +kernel
theorem w21 : wfM 2359 2457 P21 Q21 = true := by decide +kernel
theorem r22 : run tbl 80 19 l22 ⟨2463, putM P22 t6⟩ (memoK 2557 v22 Q22) = true := by decide +kernel
theorem w22 : wfM 2463 2557 P22 Q22 = true := by decide +kernel
theorem r23 : run tbl 80 19 l23 ⟨2563, putM P23 t6⟩ (memoK 2657 v23 Q23) = true := by decide +kernel
theorem w23 : wfM 2563 2657 P23 Q23 = true := by decide +kernel
theorem r24 : run tbl 80 19 l24 ⟨2663, putM P24 t6⟩ (memoK 2761 v24 Q24) = true := by decide +kernel
theorem w24 : wfM 2663 2761 P24 Q24 = true := by decide +kernel
theorem r25 : run tbl 80 19 l25 ⟨2767, putM P25 t6⟩ (memoK 2861 v25 Q25) = true := by decide +kernel
theorem w25 : wfM 2767 2861 P25 Q25 = true := by decide +kernel
theorem r26 : run tbl 80 19 l26 ⟨2867, putM P26 t6⟩ (memoK 2961 v26 Q26) = true := by decide +kernel
theorem w26 : wfM 2867 2961 P26 Q26 = true := by decide +kernel
theorem r27 : run tbl 80 19 l27 ⟨2967, putM P27 t6⟩ (memoK 3065 v27 Q27) = true := by decide +kernel
theorem w27 : wfM 2967 3065 P27 Q27 = true := by decide +kernel
theorem r28 : run tbl 80 19 l28 ⟨3071, putM P28 t6⟩ (memoK 3165 v28 Q28) = true := by decide +kernel
theorem w28 : wfM 3071 3165 P28 Q28 = true := by decide +kernel
theorem r29 : run tbl 80 19 l29 ⟨3171, putM P29 t6⟩ (memoK 3265 v29 Q29) = true := by decide +kernel
theorem w29 : wfM 3171 3265 P29 Q29 = true := by decide +kernel
theorem r30 : run tbl 80 19 l30 ⟨3271, putM P30 t6⟩ (memoK 3369 v30 Q30) = true := by decide +kernel
theorem w30 : wfM 3271 3369 P30 Q30 = true := by decide +kernel
theorem r31 : run tbl 80 19 l31 ⟨3375, putM P31 t6⟩ (memoK 3469 v31 Q31) = true := by decide +kernel
theorem w31 : wfM 3375 3469 P31 Q31 = true := by decide +kernel
theorem r32 : run tbl 80 19 l32 ⟨3525, putM P32 t6⟩ (memoK 3618 v32 Q32) = true := by decide +kernel
theorem w32 : wfM 3525 3618 P32 Q32 = true := by decide +kernel
theorem r33 : run tbl 80 19 l33 ⟨3628, putM P33 t6⟩ (memoK 3725 v33 Q33) = true := by decide +kernel
theorem w33 : wfM 3628 3725 P33 Q33 = true := by decide +kernel
theorem r34 : run tbl 80 19 l34 ⟨3735, putM P34 t6⟩ (memoK 3836 v34 Q34) = true := by decide +kernel
theorem w34 : wfM 3735 3836 P34 Q34 = true := by decide +kernel
theorem r35 : run tbl 80 19 l35 ⟨3846, putM P35 t6⟩ (memoK 3943 v35 Q35) = true := by decide +kernel
theorem w35 : wfM 3846 3943 P35 Q35 = true := by decide +kernel
theorem r36 : run tbl 80 19 l36 ⟨3953, putM P36 t6⟩ (memoK 4050 v36 Q36) = true := by decide +kernel
theorem w36 : wfM 3953 4050 P36 Q36 = true := by decide +kernel
theorem r37 : run tbl 80 19 l37 ⟨4060, putM P37 t6⟩ (memoK 4161 v37 Q37) = true := by decide +kernel
theorem w37 : wfM 4060 4161 P37 Q37 = true := by decide +kernel
theorem r38 : run tbl 80 19 l38 ⟨4171, putM P38 t6⟩ (memoK 4268 v38 Q38) = true := by decide +kernel
theorem w38 : wfM 4171 4268 P38 Q38 = true := by decide +kernel
theorem r39 : run tbl 80 19 l39 ⟨4278, putM P39 t6⟩ (memoK 4375 v39 Q39) = true := by decide +kernel
theorem w39 : wfM 4278 4375 P39 Q39 = true := by decide +kernel
theorem r40 : run tbl 80 19 l40 ⟨4385, putM P40 t6⟩ (memoK 4486 v40 Q40) = true := by decide +kernel
theorem w40 : wfM 4385 4486 P40 Q40 = true := by decide +kernel
theorem r41 : run tbl 80 19 l41 ⟨4496, putM P41 t6⟩ (memoK 4593 v41 Q41) = true := by decide +kernel
theorem w41 : wfM 4496 4593 P41 Q41 = true := by decide +kernel
theorem r42 : run tbl 80 19 l42 ⟨4603, putM P42 t6⟩ (memoK 4700 v42 Q42) = true := by decide +kernel
theorem w42 : wfM 4603 4700 P42 Q42 = true := by decide +kernel
theorem r43 : run tbl 80 19 l43 ⟨4710, putM P43 t6⟩ (memoK 4811 v43 Q43) = true := by decide +kernel
theorem w43 : wfM 4710 4811 P43 Q43 = true := by decide +kernel
theorem r44 : run tbl 80 19 l44 ⟨4821, putM P44 t6⟩ (memoK 4918 v44 Q44) = true := by decide +kernel
theorem w44 : wfM 4821 4918 P44 Q44 = true := by decide +kernel
theorem r45 : run tbl 80 19 l45 ⟨4928, putM P45 t6⟩ (memoK 5025 v45 Q45) = true := by decide +kernel
theorem w45 : wfM 4928 5025 P45 Q45 = true := by decide +kernel
theorem r46 : run tbl 80 19 l46 ⟨5035, putM P46 t6⟩ (memoK 5136 v46 Q46) = true := by decide +kernel
theorem w46 : wfM 5035 5136 P46 Q46 = true := by decide +kernel
theorem r47 : run tbl 80 19 l47 ⟨5146, putM P47 t6⟩ (memoK 5243 v47 Q47) = true := by decide +kernel
theorem w47 : wfM 5146 5243 P47 Q47 = true := by decide +kernel
theorem r48 : run tbl 80 19 l48 ⟨5303, putM P48 t6⟩ (memoK 5405 v48 Q48) = true := by decide +kernel
theorem w48 : wfM 5303 5405 P48 Q48 = true := by decide +kernel
theorem r49 : run tbl 80 19 l49 ⟨5418, putM P49 t6⟩ (memoK 5528 v49 Q49) = true := by decide +kernel
theorem w49 : wfM 5418 5528 P49 Q49 = true := by decide +kernel
theorem r50 : run tbl 80 19 l50 ⟨5544, putM P50 t6⟩ (memoK 5662 v50 Q50) = true := by decide +kernel
theorem w50 : wfM 5544 5662 P50 Q50 = true := by decide +kernel
theorem r51 : run tbl 80 19 l51 ⟨5682, putM P51 t6⟩ (memoK 5793 v51 Q51) = true := by decide +kernel
theorem w51 : wfM 5682 5793 P51 Q51 = true := by decide +kernel
theorem r52 : run tbl 80 19 l52 ⟨5810, putM P52 t6⟩ (memoK 5914 v52 Q52) = true := by decide +kernel
theorem w52 : wfM 5810 5914 P52 Q52 = true := by decide +kernel
theorem r53 : run tbl 80 19 l53 ⟨5927, putM P53 t6⟩ (memoK 6035 v53 Q53) = true := by decide +kernel
theorem w53 : wfM 5927 6035 P53 Q53 = true := by decide +kernel
theorem r54 : run tbl 80 19 l54 ⟨6048, putM P54 t6⟩ (memoK 6159 v54 Q54) = true := by decide +kernel
theorem w54 : wfM 6048 6159 P54 Q54 = true := by decide +kernel
theorem r55 : run tbl 80 19 l55 ⟨6176, putM P55 t6⟩ (memoK 6280 v55 Q55) = true := by decide +kernel
theorem w55 : wfM 6176 6280 P55 Q55 = true := by decide +kernel
theorem r56 : run tbl 80 19 l56 ⟨6293, putM P56 t6⟩ (memoK 6401 v56 Q56) = true := by decide +kernel
theorem w56 : wfM 6293 6401 P56 Q56 = true := by decide +kernel
theorem r57 : run tbl 80 19 l57 ⟨6414, putM P57 t6⟩ (memoK 6525 v57 Q57) = true := by decide +kernel
theorem w57 : wfM 6414 6525 P57 Q57 = true := by decide +kernel
theorem r58 : run tbl 80 19 l58 ⟨6542, putM P58 t6⟩ (memoK 6653 v58 Q58) = true := by decide +kernel
theorem w58 : wfM 6542 6653 P58 Q58 = true := by decide +kernel
end Go.Bvm.YtjplhnnijolpnaaGreatDoorMVarsMany
