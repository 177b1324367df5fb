/- Calls of the law JsonStrings, run apart. Conditions: none. -/
import Derived.Test.YtacpnpdggbfkgaaDoorMJsonStringsD
import Derived.Test.YtacpnpdggbfkgaaDoorTJ
set_option maxRecDepth 100000
namespace Go.Bvm.YtacpnpdggbfkgaaDoorMJsonStrings
theorem r0 : run Go.Bvm.YtacpnpdggbfkgaaDoorTJ.tbl 80 11 l0 ⟨528, putM P0 t6⟩ (memoK 530 v0 Q0) = true := by decide +kernel
theorem w0 : wfM 528 530 P0 Q0 = true := by decide +kernel
theorem r1 : run Go.Bvm.YtacpnpdggbfkgaaDoorTJ.tbl 80 11 l1 ⟨538, putM P1 t6⟩ (memoK 542 v1 Q1) = true := by decide +kernel
theorem w1 : wfM 538 542 P1 Q1 = true := by decide +kernel
theorem r2 : run Go.Bvm.YtacpnpdggbfkgaaDoorTJ.tbl 80 11 l2 ⟨567, putM P2 t6⟩ (memoK 583 v2 Q2) = true := by decide +kernel
theorem w2 : wfM 567 583 P2 Q2 = true := by decide +kernel
theorem r3 : run Go.Bvm.YtacpnpdggbfkgaaDoorTJ.tbl 80 11 l3 ⟨608, putM P3 t6⟩ (memoK 627 v3 Q3) = true := by decide +kernel
theorem w3 : wfM 608 627 P3 Q3 = true := by decide +kernel
theorem r4 : run Go.Bvm.YtacpnpdggbfkgaaDoorTJ.tbl 80 11 l4 ⟨647, putM P4 t6⟩ (memoK 654 v4 Q4) = true := by decide +kernel
theorem w4 : wfM 647 654 P4 Q4 = true := by decide +kernel
theorem r5 : run Go.Bvm.YtacpnpdggbfkgaaDoorTJ.tbl 80 11 l5 ⟨671, putM P5 t6⟩ (memoK 680 v5 Q5) = true := by decide +kernel
theorem w5 : wfM 671 680 P5 Q5 = true := by decide +kernel
theorem r6 : run Go.Bvm.YtacpnpdggbfkgaaDoorTJ.tbl 80 11 l6 ⟨697, putM P6 t6⟩ (memoK 706 v6 Q6) = true := by decide +kernel
theorem w6 : wfM 697 706 P6 Q6 = true := by decide +kernel
theorem r7 : run Go.Bvm.YtacpnpdggbfkgaaDoorTJ.tbl 80 11 l7 ⟨728, putM P7 t6⟩ (memoK 742 v7 Q7) = true := by decide +kernel
theorem w7 : wfM 728 742 P7 Q7 = true := by decide +kernel
theorem r8 : run Go.Bvm.YtacpnpdggbfkgaaDoorTJ.tbl 80 11 l8 ⟨756, putM P8 t6⟩ (memoK 763 v8 Q8) = true := by decide +kernel
theorem w8 : wfM 756 763 P8 Q8 = true := by decide +kernel
theorem r9 : run Go.Bvm.YtacpnpdggbfkgaaDoorTJ.tbl 80 11 l9 ⟨775, putM P9 t6⟩ (memoK 777 v9 Q9) = true := by decide +kernel
theorem w9 : wfM 775 777 P9 Q9 = true := by decide +kernel
theorem r10 : run Go.Bvm.YtacpnpdggbfkgaaDoorTJ.tbl 80 11 l10 ⟨783, putM P10 t6⟩ (memoK 787 v10 Q10) = true := by decide +kernel
theorem w10 : wfM 783 787 P10 Q10 = true := by decide +kernel
theorem r11 : run Go.Bvm.YtacpnpdggbfkgaaDoorTJ.tbl 80 11 l11 ⟨795, putM P11 t6⟩ (memoK 799 v11 Q11) = true := by decide +kernel
theorem w11 : wfM 795 799 P11 Q11 = true := by decide +kernel
theorem r12 : run Go.Bvm.YtacpnpdggbfkgaaDoorTJ.tbl 80 11 l12 ⟨805, putM P12 t6⟩ (memoK 809 v12 Q12) = true := by decide +kernel
theorem w12 : wfM 805 809 P12 Q12 = true := by decide +kernel
theorem r13 : run Go.Bvm.YtacpnpdggbfkgaaDoorTJ.tbl 80 11 l13 ⟨832, putM P13 t6⟩ (memoK 847 v13 Q13) = true := by decide +kernel
theorem w13 : wfM 832 847 P13 Q13 = true := by decide +kernel
theorem r14 : run Go.Bvm.YtacpnpdggbfkgaaDoorTJ.tbl 80 11 l14 ⟨861, putM P14 t6⟩ (memoK 863 v14 Q14) = true := by decide +kernel
theorem w14 : wfM 861 863 P14 Q14 = true := by decide +kernel
theorem r15 : run Go.Bvm.YtacpnpdggbfkgaaDoorTJ.tbl 80 11 l15 ⟨871, putM P15 t6⟩ (memoK 877 v15 Q15) = true := by decide +kernel
theorem w15 : wfM 871 877 P15 Q15 = true := by decide +kernel
theorem r16 : run Go.Bvm.YtacpnpdggbfkgaaDoorTJ.tbl 80 11 l16 ⟨889, putM P16 t6⟩ (memoK 893 v16 Q16) = true := by decide +kernel
theorem w16 : wfM 889 893 P16 Q16 = true := by decide +kernel
theorem r17 : run Go.Bvm.YtacpnpdggbfkgaaDoorTJ.tbl 80 11 l17 ⟨899, putM P17 t6⟩ (memoK 901 v17 Q17) = true := by decide +kernel
theorem w17 : wfM 899 901 P17 Q17 = true := by decide +kernel
theorem r18 : run Go.Bvm.YtacpnpdggbfkgaaDoorTJ.tbl 80 11 l18 ⟨912, putM P18 t6⟩ (memoK 916 v18 Q18) = true := by decide +kernel
theorem w18 : wfM 912 916 P18 Q18 = true := by decide +kernel
theorem r19 : run Go.Bvm.YtacpnpdggbfkgaaDoorTJ.tbl 80 11 l19 ⟨922, putM P19 t6⟩ (memoK 926 v19 Q19) = true := by decide +kernel
theorem w19 : wfM 922 926 P19 Q19 = true := by decide +kernel
theorem r20 : run Go.Bvm.YtacpnpdggbfkgaaDoorTJ.tbl 80 11 l20 ⟨932, putM P20 t6⟩ (memoK 934 v20 Q20) = true := by decide +kernel
theorem w20 : wfM 932 934 P20 Q20 = true := by decide +kernel
theorem r21 : run Go.Bvm.YtacpnpdggbfkgaaDoorTJ.tbl 80 11 l21 ⟨945, putM P21 t6⟩ (memoK 949 v21 Q21) = true := by decide +kernel
theorem w21 : wfM 945 949 P21 Q21 = true := by decide +kernel
theorem r22 : run Go.Bvm.YtacpnpdggbfkgaaDoorTJ.tbl 80 11 l22 ⟨955, putM P22 t6⟩ (memoK 959 v22 Q22) = true := by decide +kernel
theorem w22 : wfM 955 959 P22 Q22 = true := by decide +kernel
theorem r23 : run Go.Bvm.YtacpnpdggbfkgaaDoorTJ.tbl 80 11 l23 ⟨965, putM P23 t6⟩ (memoK 967 v23 Q23) = true := by decide +kernel
theorem w23 : wfM 965 967 P23 Q23 = true := by decide +kernel
theorem r24 : run Go.Bvm.YtacpnpdggbfkgaaDoorTJ.tbl 80 11 l24 ⟨978, putM P24 t6⟩ (memoK 982 v24 Q24) = true := by decide +kernel
theorem w24 : wfM 978 982 P24 Q24 = true := by decide +kernel
theorem r25 : run Go.Bvm.YtacpnpdggbfkgaaDoorTJ.tbl 80 11 l25 ⟨988, putM P25 t6⟩ (memoK 992 v25 Q25) = true := by decide +kernel
theorem w25 : wfM 988 992 P25 Q25 = true := by decide +kernel
theorem r26 : run Go.Bvm.YtacpnpdggbfkgaaDoorTJ.tbl 80 11 l26 ⟨998, putM P26 t6⟩ (memoK 1000 v26 Q26) = true := by decide +kernel
theorem w26 : wfM 998 1000 P26 Q26 = true := by decide +kernel
theorem r27 : run Go.Bvm.YtacpnpdggbfkgaaDoorTJ.tbl 80 11 l27 ⟨1011, putM P27 t6⟩ (memoK 1015 v27 Q27) = true := by decide +kernel
theorem w27 : wfM 1011 1015 P27 Q27 = true := by decide +kernel
theorem r28 : run Go.Bvm.YtacpnpdggbfkgaaDoorTJ.tbl 80 11 l28 ⟨1021, putM P28 t6⟩ (memoK 1025 v28 Q28) = true := by decide +kernel
theorem w28 : wfM 1021 1025 P28 Q28 = true := by decide +kernel
theorem r29 : run Go.Bvm.YtacpnpdggbfkgaaDoorTJ.tbl 80 11 l29 ⟨1031, putM P29 t6⟩ (memoK 1033 v29 Q29) = true := by decide +kernel
theorem w29 : wfM 1031 1033 P29 Q29 = true := by decide +kernel
theorem r30 : run Go.Bvm.YtacpnpdggbfkgaaDoorTJ.tbl 80 11 l30 ⟨1044, putM P30 t6⟩ (memoK 1048 v30 Q30) = true := by decide +kernel
theorem w30 : wfM 1044 1048 P30 Q30 = true := by decide +kernel
theorem r31 : run Go.Bvm.YtacpnpdggbfkgaaDoorTJ.tbl 80 11 l31 ⟨1054, putM P31 t6⟩ (memoK 1058 v31 Q31) = true := by decide +kernel
theorem w31 : wfM 1054 1058 P31 Q31 = true := by decide +kernel
theorem r32 : run Go.Bvm.YtacpnpdggbfkgaaDoorTJ.tbl 80 11 l32 ⟨1064, putM P32 t6⟩ (memoK 1066 v32 Q32) = true := by decide +kernel
theorem w32 : wfM 1064 1066 P32 Q32 = true := by decide +kernel
theorem r33 : run Go.Bvm.YtacpnpdggbfkgaaDoorTJ.tbl 80 11 l33 ⟨1077, putM P33 t6⟩ (memoK 1081 v33 Q33) = true := by decide +kernel
theorem w33 : wfM 1077 1081 P33 Q33 = true := by decide +kernel
theorem r34 : run Go.Bvm.YtacpnpdggbfkgaaDoorTJ.tbl 80 11 l34 ⟨1087, putM P34 t6⟩ (memoK 1091 v34 Q34) = true := by decide +kernel
theorem w34 : wfM 1087 1091 P34 Q34 = true := by decide +kernel
theorem r35 : run Go.Bvm.YtacpnpdggbfkgaaDoorTJ.tbl 80 11 l35 ⟨1097, putM P35 t6⟩ (memoK 1099 v35 Q35) = true := by decide +kernel
theorem w35 : wfM 1097 1099 P35 Q35 = true := by decide +kernel
theorem r36 : run Go.Bvm.YtacpnpdggbfkgaaDoorTJ.tbl 80 11 l36 ⟨1110, putM P36 t6⟩ (memoK 1114 v36 Q36) = true := by decide +kernel
theorem w36 : wfM 1110 1114 P36 Q36 = true := by decide +kernel
theorem r37 : run Go.Bvm.YtacpnpdggbfkgaaDoorTJ.tbl 80 11 l37 ⟨1120, putM P37 t6⟩ (memoK 1124 v37 Q37) = true := by decide +kernel
theorem w37 : wfM 1120 1124 P37 Q37 = true := by decide +kernel
theorem r38 : run Go.Bvm.YtacpnpdggbfkgaaDoorTJ.tbl 80 11 l38 ⟨1130, putM P38 t6⟩ (memoK 1132 v38 Q38) = true := by decide +kernel
theorem w38 : wfM 1130 1132 P38 Q38 = true := by decide +kernel
theorem r39 : run Go.Bvm.YtacpnpdggbfkgaaDoorTJ.tbl 80 11 l39 ⟨1143, putM P39 t6⟩ (memoK 1147 v39 Q39) = true := by decide +kernel
theorem w39 : wfM 1143 1147 P39 Q39 = true := by decide +kernel
theorem r40 : run Go.Bvm.YtacpnpdggbfkgaaDoorTJ.tbl 80 11 l40 ⟨1153, putM P40 t6⟩ (memoK 1157 v40 Q40) = true := by decide +kernel
theorem w40 : wfM 1153 1157 P40 Q40 = true := by decide +kernel
theorem r41 : run Go.Bvm.YtacpnpdggbfkgaaDoorTJ.tbl 80 11 l41 ⟨1163, putM P41 t6⟩ (memoK 1165 v41 Q41) = true := by decide +kernel
theorem w41 : wfM 1163 1165 P41 Q41 = true := by decide +kernel
theorem r42 : run Go.Bvm.YtacpnpdggbfkgaaDoorTJ.tbl 80 11 l42 ⟨1176, putM P42 t6⟩ (memoK 1180 v42 Q42) = true := by decide +kernel
theorem w42 : wfM 1176 1180 P42 Q42 = true := by decide +kernel
theorem r43 : run Go.Bvm.YtacpnpdggbfkgaaDoorTJ.tbl 80 11 l43 ⟨1186, putM P43 t6⟩ (memoK 1190 v43 Q43) = true := by decide +kernel
theorem w43 : wfM 1186 1190 P43 Q43 = true := by decide +kernel
theorem r44 : run Go.Bvm.YtacpnpdggbfkgaaDoorTJ.tbl 80 11 l44 ⟨1196, putM P44 t6⟩ (memoK 1198 v44 Q44) = true := by decide +kernel
theorem w44 : wfM 1196 1198 P44 Q44 = true := by decide +kernel
theorem r45 : run Go.Bvm.YtacpnpdggbfkgaaDoorTJ.tbl 80 11 l45 ⟨1209, putM P45 t6⟩ (memoK 1213 v45 Q45) = true := by decide +kernel
theorem w45 : wfM 1209 1213 P45 Q45 = true := by decide +kernel
theorem r46 : run Go.Bvm.YtacpnpdggbfkgaaDoorTJ.tbl 80 11 l46 ⟨1221, putM P46 t6⟩ (memoK 1225 v46 Q46) = true := by decide +kernel
theorem w46 : wfM 1221 1225 P46 Q46 = true := by decide +kernel
theorem r47 : run Go.Bvm.YtacpnpdggbfkgaaDoorTJ.tbl 80 11 l47 ⟨1231, putM P47 t6⟩ (memoK 1233 v47 Q47) = true := by decide +kernel
theorem w47 : wfM 1231 1233 P47 Q47 = true := by decide +kernel
theorem r48 : run Go.Bvm.YtacpnpdggbfkgaaDoorTJ.tbl 80 11 l48 ⟨1244, putM P48 t6⟩ (memoK 1248 v48 Q48) = true := by decide +kernel
theorem w48 : wfM 1244 1248 P48 Q48 = true := by decide +kernel
theorem r49 : run Go.Bvm.YtacpnpdggbfkgaaDoorTJ.tbl 80 11 l49 ⟨1256, putM P49 t6⟩ (memoK 1260 v49 Q49) = true := by decide +kernel
theorem w49 : wfM 1256 1260 P49 Q49 = true := by decide +kernel
theorem r50 : run Go.Bvm.YtacpnpdggbfkgaaDoorTJ.tbl 80 11 l50 ⟨1266, putM P50 t6⟩ (memoK 1268 v50 Q50) = true := by decide +kernel
theorem w50 : wfM 1266 1268 P50 Q50 = true := by decide +kernel
theorem r51 : run Go.Bvm.YtacpnpdggbfkgaaDoorTJ.tbl 80 11 l51 ⟨1279, putM P51 t6⟩ (memoK 1283 v51 Q51) = true := by decide +kernel
theorem w51 : wfM 1279 1283 P51 Q51 = true := by decide +kernel
theorem r52 : run Go.Bvm.YtacpnpdggbfkgaaDoorTJ.tbl 80 11 l52 ⟨1289, putM P52 t6⟩ (memoK 1293 v52 Q52) = true := by decide +kernel
theorem w52 : wfM 1289 1293 P52 Q52 = true := by decide +kernel
theorem r53 : run Go.Bvm.YtacpnpdggbfkgaaDoorTJ.tbl 80 11 l53 ⟨1299, putM P53 t6⟩ (memoK 1301 v53 Q53) = true := by decide +kernel
theorem w53 : wfM 1299 1301 P53 Q53 = true := by decide +kernel
theorem r54 : run Go.Bvm.YtacpnpdggbfkgaaDoorTJ.tbl 80 11 l54 ⟨1312, putM P54 t6⟩ (memoK 1316 v54 Q54) = true := by decide +kernel
theorem w54 : wfM 1312 1316 P54 Q54 = true := by decide +kernel
theorem r55 : run Go.Bvm.YtacpnpdggbfkgaaDoorTJ.tbl 80 11 l55 ⟨1322, putM P55 t6⟩ (memoK 1326 v55 Q55) = true := by decide +kernel
theorem w55 : wfM 1322 1326 P55 Q55 = true := by decide +kernel
theorem r56 : run Go.Bvm.YtacpnpdggbfkgaaDoorTJ.tbl 80 11 l56 ⟨1332, putM P56 t6⟩ (memoK 1334 v56 Q56) = true := by decide +kernel
theorem w56 : wfM 1332 1334 P56 Q56 = true := by decide +kernel
theorem r57 : run Go.Bvm.YtacpnpdggbfkgaaDoorTJ.tbl 80 11 l57 ⟨1345, putM P57 t6⟩ (memoK 1349 v57 Q57) = true := by decide +kernel
theorem w57 : wfM 1345 1349 P57 Q57 = true := by decide +kernel
theorem r58 : run Go.Bvm.YtacpnpdggbfkgaaDoorTJ.tbl 80 11 l58 ⟨1357, putM P58 t6⟩ (memoK 1361 v58 Q58) = true := by decide +kernel
theorem w58 : wfM 1357 1361 P58 Q58 = true := by decide +kernel
theorem r59 : run Go.Bvm.YtacpnpdggbfkgaaDoorTJ.tbl 80 11 l59 ⟨1367, putM P59 t6⟩ (memoK 1369 v59 Q59) = true := by decide +kernel
theorem w59 : wfM 1367 1369 P59 Q59 = true := by decide +kernel
theorem r60 : run Go.Bvm.YtacpnpdggbfkgaaDoorTJ.tbl 80 11 l60 ⟨1380, putM P60 t6⟩ (memoK 1384 v60 Q60) = true := by decide +kernel
theorem w60 : wfM 1380 1384 P60 Q60 = true := by decide +kernel
theorem r61 : run Go.Bvm.YtacpnpdggbfkgaaDoorTJ.tbl 80 11 l61 ⟨1390, putM P61 t6⟩ (memoK 1394 v61 Q61) = true := by decide +kernel
theorem w61 : wfM 1390 1394 P61 Q61 = true := by decide +kernel
theorem r62 : run Go.Bvm.YtacpnpdggbfkgaaDoorTJ.tbl 80 11 l62 ⟨1400, putM P62 t6⟩ (memoK 1402 v62 Q62) = true := by decide +kernel
theorem w62 : wfM 1400 1402 P62 Q62 = true := by decide +kernel
theorem r63 : run Go.Bvm.YtacpnpdggbfkgaaDoorTJ.tbl 80 11 l63 ⟨1413, putM P63 t6⟩ (memoK 1417 v63 Q63) = true := by decide +kernel
theorem w63 : wfM 1413 1417 P63 Q63 = true := by decide +kernel
theorem r64 : run Go.Bvm.YtacpnpdggbfkgaaDoorTJ.tbl 80 11 l64 ⟨1423, putM P64 t6⟩ (memoK 1427 v64 Q64) = true := by decide +kernel
theorem w64 : wfM 1423 1427 P64 Q64 = true := by decide +kernel
theorem r65 : run Go.Bvm.YtacpnpdggbfkgaaDoorTJ.tbl 80 11 l65 ⟨1433, putM P65 t6⟩ (memoK 1435 v65 Q65) = true := by decide +kernel
theorem w65 : wfM 1433 1435 P65 Q65 = true := by decide +kernel
theorem r66 : run Go.Bvm.YtacpnpdggbfkgaaDoorTJ.tbl 80 11 l66 ⟨1446, putM P66 t6⟩ (memoK 1450 v66 Q66) = true := by decide +kernel
theorem w66 : wfM 1446 1450 P66 Q66 = true := by decide +kernel
theorem r67 : run Go.Bvm.YtacpnpdggbfkgaaDoorTJ.tbl 80 11 l67 ⟨1456, putM P67 t6⟩ (memoK 1460 v67 Q67) = true := by decide +kernel
theorem w67 : wfM 1456 1460 P67 Q67 = true := by decide +kernel
theorem r68 : run Go.Bvm.YtacpnpdggbfkgaaDoorTJ.tbl 80 11 l68 ⟨1466, putM P68 t6⟩ (memoK 1468 v68 Q68) = true := by decide +kernel
theorem w68 : wfM 1466 1468 P68 Q68 = true := by decide +kernel
theorem r69 : run Go.Bvm.YtacpnpdggbfkgaaDoorTJ.tbl 80 11 l69 ⟨1479, putM P69 t6⟩ (memoK 1483 v69 Q69) = true := by decide +kernel
theorem w69 : wfM 1479 1483 P69 Q69 = true := by decide +kernel
theorem r70 : run Go.Bvm.YtacpnpdggbfkgaaDoorTJ.tbl 80 11 l70 ⟨1489, putM P70 t6⟩ (memoK 1493 v70 Q70) = true := by decide +kernel
theorem w70 : wfM 1489 1493 P70 Q70 = true := by decide +kernel
theorem r71 : run Go.Bvm.YtacpnpdggbfkgaaDoorTJ.tbl 80 11 l71 ⟨1499, putM P71 t6⟩ (memoK 1501 v71 Q71) = true := by decide +kernel
theorem w71 : wfM 1499 1501 P71 Q71 = true := by decide +kernel
theorem r72 : run Go.Bvm.YtacpnpdggbfkgaaDoorTJ.tbl 80 11 l72 ⟨1512, putM P72 t6⟩ (memoK 1516 v72 Q72) = true := by decide +kernel
theorem w72 : wfM 1512 1516 P72 Q72 = true := by decide +kernel
theorem r73 : run Go.Bvm.YtacpnpdggbfkgaaDoorTJ.tbl 80 11 l73 ⟨1522, putM P73 t6⟩ (memoK 1526 v73 Q73) = true := by decide +kernel
theorem w73 : wfM 1522 1526 P73 Q73 = true := by decide +kernel
theorem r74 : run Go.Bvm.YtacpnpdggbfkgaaDoorTJ.tbl 80 11 l74 ⟨1532, putM P74 t6⟩ (memoK 1534 v74 Q74) = true := by decide +kernel
theorem w74 : wfM 1532 1534 P74 Q74 = true := by decide +kernel
theorem r75 : run Go.Bvm.YtacpnpdggbfkgaaDoorTJ.tbl 80 11 l75 ⟨1545, putM P75 t6⟩ (memoK 1549 v75 Q75) = true := by decide +kernel
theorem w75 : wfM 1545 1549 P75 Q75 = true := by decide +kernel
theorem r76 : run Go.Bvm.YtacpnpdggbfkgaaDoorTJ.tbl 80 11 l76 ⟨1555, putM P76 t6⟩ (memoK 1559 v76 Q76) = true := by decide +kernel
theorem w76 : wfM 1555 1559 P76 Q76 = true := by decide +kernel
theorem r77 : run Go.Bvm.YtacpnpdggbfkgaaDoorTJ.tbl 80 11 l77 ⟨1565, putM P77 t6⟩ (memoK 1567 v77 Q77) = true := by decide +kernel
theorem w77 : wfM 1565 1567 P77 Q77 = true := by decide +kernel
theorem r78 : run Go.Bvm.YtacpnpdggbfkgaaDoorTJ.tbl 80 11 l78 ⟨1578, putM P78 t6⟩ (memoK 1582 v78 Q78) = true := by decide +kernel
theorem w78 : wfM 1578 1582 P78 Q78 = true := by decide +kernel
theorem r79 : run Go.Bvm.YtacpnpdggbfkgaaDoorTJ.tbl 80 11 l79 ⟨1588, putM P79 t6⟩ (memoK 1592 v79 Q79) = true := by decide +kernel
theorem w79 : wfM 1588 1592 P79 Q79 = true := by decide +kernel
theorem r80 : run Go.Bvm.YtacpnpdggbfkgaaDoorTJ.tbl 80 11 l80 ⟨1598, putM P80 t6⟩ (memoK 1600 v80 Q80) = true := by decide +kernel
theorem w80 : wfM 1598 1600 P80 Q80 = true := by decide +kernel
theorem r81 : run Go.Bvm.YtacpnpdggbfkgaaDoorTJ.tbl 80 11 l81 ⟨1611, putM P81 t6⟩ (memoK 1615 v81 Q81) = true := by decide +kernel
theorem w81 : wfM 1611 1615 P81 Q81 = true := by decide +kernel
theorem r82 : run Go.Bvm.YtacpnpdggbfkgaaDoorTJ.tbl 80 11 l82 ⟨1621, putM P82 t6⟩ (memoK 1625 v82 Q82) = true := by decide +kernel
theorem w82 : wfM 1621 1625 P82 Q82 = true := by decide +kernel
theorem r83 : run Go.Bvm.YtacpnpdggbfkgaaDoorTJ.tbl 80 11 l83 ⟨1631, putM P83 t6⟩ (memoK 1633 v83 Q83) = true := by decide +kernel
theorem w83 : wfM 1631 1633 P83 Q83 = true := by decide +kernel
theorem r84 : run Go.Bvm.YtacpnpdggbfkgaaDoorTJ.tbl 80 11 l84 ⟨1644, putM P84 t6⟩ (memoK 1648 v84 Q84) = true := by decide +kernel
theorem w84 : wfM 1644 1648 P84 Q84 = true := by decide +kernel
theorem r85 : run Go.Bvm.YtacpnpdggbfkgaaDoorTJ.tbl 80 11 l85 ⟨1654, putM P85 t6⟩ (memoK 1658 v85 Q85) = true := by decide +kernel
theorem w85 : wfM 1654 1658 P85 Q85 = true := by decide +kernel
theorem r86 : run Go.Bvm.YtacpnpdggbfkgaaDoorTJ.tbl 80 11 l86 ⟨1664, putM P86 t6⟩ (memoK 1666 v86 Q86) = true := by decide +kernel
theorem w86 : wfM 1664 1666 P86 Q86 = true := by decide +kernel
theorem r87 : run Go.Bvm.YtacpnpdggbfkgaaDoorTJ.tbl 80 11 l87 ⟨1677, putM P87 t6⟩ (memoK 1681 v87 Q87) = true := by decide +kernel
theorem w87 : wfM 1677 1681 P87 Q87 = true := by decide +kernel
theorem r88 : run Go.Bvm.YtacpnpdggbfkgaaDoorTJ.tbl 80 11 l88 ⟨1687, putM P88 t6⟩ (memoK 1691 v88 Q88) = true := by decide +kernel
theorem w88 : wfM 1687 1691 P88 Q88 = true := by decide +kernel
theorem r89 : run Go.Bvm.YtacpnpdggbfkgaaDoorTJ.tbl 80 11 l89 ⟨1697, putM P89 t6⟩ (memoK 1699 v89 Q89) = true := by decide +kernel
theorem w89 : wfM 1697 1699 P89 Q89 = true := by decide +kernel
theorem r90 : run Go.Bvm.YtacpnpdggbfkgaaDoorTJ.tbl 80 11 l90 ⟨1710, putM P90 t6⟩ (memoK 1714 v90 Q90) = true := by decide +kernel
theorem w90 : wfM 1710 1714 P90 Q90 = true := by decide +kernel
theorem r91 : run Go.Bvm.YtacpnpdggbfkgaaDoorTJ.tbl 80 11 l91 ⟨1720, putM P91 t6⟩ (memoK 1724 v91 Q91) = true := by decide +kernel
theorem w91 : wfM 1720 1724 P91 Q91 = true := by decide +kernel
theorem r92 : run Go.Bvm.YtacpnpdggbfkgaaDoorTJ.tbl 80 11 l92 ⟨1730, putM P92 t6⟩ (memoK 1732 v92 Q92) = true := by decide +kernel
theorem w92 : wfM 1730 1732 P92 Q92 = true := by decide +kernel
theorem r93 : run Go.Bvm.YtacpnpdggbfkgaaDoorTJ.tbl 80 11 l93 ⟨1743, putM P93 t6⟩ (memoK 1747 v93 Q93) = true := by decide +kernel
theorem w93 : wfM 1743 1747 P93 Q93 = true := by decide +kernel
theorem r94 : run Go.Bvm.YtacpnpdggbfkgaaDoorTJ.tbl 80 11 l94 ⟨1753, putM P94 t6⟩ (memoK 1757 v94 Q94) = true := by decide +kernel
theorem w94 : wfM 1753 1757 P94 Q94 = true := by decide +kernel
theorem r95 : run Go.Bvm.YtacpnpdggbfkgaaDoorTJ.tbl 80 11 l95 ⟨1763, putM P95 t6⟩ (memoK 1765 v95 Q95) = true := by decide +kernel
theorem w95 : wfM 1763 1765 P95 Q95 = true := by decide +kernel
theorem r96 : run Go.Bvm.YtacpnpdggbfkgaaDoorTJ.tbl 80 11 l96 ⟨1776, putM P96 t6⟩ (memoK 1780 v96 Q96) = true := by decide +kernel
theorem w96 : wfM 1776 1780 P96 Q96 = true := by decide +kernel
theorem r97 : run Go.Bvm.YtacpnpdggbfkgaaDoorTJ.tbl 80 11 l97 ⟨1786, putM P97 t6⟩ (memoK 1790 v97 Q97) = true := by decide +kernel
theorem w97 : wfM 1786 1790 P97 Q97 = true := by decide +kernel
theorem r98 : run Go.Bvm.YtacpnpdggbfkgaaDoorTJ.tbl 80 11 l98 ⟨1796, putM P98 t6⟩ (memoK 1798 v98 Q98) = true := by decide +kernel
theorem w98 : wfM 1796 1798 P98 Q98 = true := by decide +kernel
theorem r99 : run Go.Bvm.YtacpnpdggbfkgaaDoorTJ.tbl 80 11 l99 ⟨1809, putM P99 t6⟩ (memoK 1813 v99 Q99) = true := by decide +kernel
theorem w99 : wfM 1809 1813 P99 Q99 = true := by decide +kernel
theorem r100 : run Go.Bvm.YtacpnpdggbfkgaaDoorTJ.tbl 80 11 l100 ⟨1819, putM P100 t6⟩ (memoK 1823 v100 Q100) = true := by decide +kernel
theorem w100 : wfM 1819 1823 P100 Q100 = true := by decide +kernel
theorem r101 : run Go.Bvm.YtacpnpdggbfkgaaDoorTJ.tbl 80 11 l101 ⟨1829, putM P101 t6⟩ (memoK 1831 v101 Q101) = true := by decide +kernel
theorem w101 : wfM 1829 1831 P101 Q101 = true := by decide +kernel
theorem r102 : run Go.Bvm.YtacpnpdggbfkgaaDoorTJ.tbl 80 11 l102 ⟨1842, putM P102 t6⟩ (memoK 1846 v102 Q102) = true := by decide +kernel
theorem w102 : wfM 1842 1846 P102 Q102 = true := by decide +kernel
theorem r103 : run Go.Bvm.YtacpnpdggbfkgaaDoorTJ.tbl 80 11 l103 ⟨1852, putM P103 t6⟩ (memoK 1856 v103 Q103) = true := by decide +kernel
theorem w103 : wfM 1852 1856 P103 Q103 = true := by decide +kernel
theorem r104 : run Go.Bvm.YtacpnpdggbfkgaaDoorTJ.tbl 80 11 l104 ⟨1862, putM P104 t6⟩ (memoK 1864 v104 Q104) = true := by decide +kernel
theorem w104 : wfM 1862 1864 P104 Q104 = true := by decide +kernel
theorem r105 : run Go.Bvm.YtacpnpdggbfkgaaDoorTJ.tbl 80 11 l105 ⟨1875, putM P105 t6⟩ (memoK 1879 v105 Q105) = true := by decide +kernel
theorem w105 : wfM 1875 1879 P105 Q105 = true := by decide +kernel
theorem r106 : run Go.Bvm.YtacpnpdggbfkgaaDoorTJ.tbl 80 11 l106 ⟨1885, putM P106 t6⟩ (memoK 1889 v106 Q106) = true := by decide +kernel
theorem w106 : wfM 1885 1889 P106 Q106 = true := by decide +kernel
theorem r107 : run Go.Bvm.YtacpnpdggbfkgaaDoorTJ.tbl 80 11 l107 ⟨1895, putM P107 t6⟩ (memoK 1897 v107 Q107) = true := by decide +kernel
theorem w107 : wfM 1895 1897 P107 Q107 = true := by decide +kernel
theorem r108 : run Go.Bvm.YtacpnpdggbfkgaaDoorTJ.tbl 80 11 l108 ⟨1908, putM P108 t6⟩ (memoK 1912 v108 Q108) = true := by decide +kernel
theorem w108 : wfM 1908 1912 P108 Q108 = true := by decide +kernel
theorem r109 : run Go.Bvm.YtacpnpdggbfkgaaDoorTJ.tbl 80 11 l109 ⟨1918, putM P109 t6⟩ (memoK 1922 v109 Q109) = true := by decide +kernel
theorem w109 : wfM 1918 1922 P109 Q109 = true := by decide +kernel
theorem r110 : run Go.Bvm.YtacpnpdggbfkgaaDoorTJ.tbl 80 11 l110 ⟨1928, putM P110 t6⟩ (memoK 1930 v110 Q110) = true := by decide +kernel
theorem w110 : wfM 1928 1930 P110 Q110 = true := by decide +kernel
theorem r111 : run Go.Bvm.YtacpnpdggbfkgaaDoorTJ.tbl 80 11 l111 ⟨1941, putM P111 t6⟩ (memoK 1945 v111 Q111) = true := by decide +kernel
theorem w111 : wfM 1941 1945 P111 Q111 = true := by decide +kernel
theorem r112 : run Go.Bvm.YtacpnpdggbfkgaaDoorTJ.tbl 80 11 l112 ⟨1953, putM P112 t6⟩ (memoK 1959 v112 Q112) = true := by decide +kernel
theorem w112 : wfM 1953 1959 P112 Q112 = true := by decide +kernel
theorem r113 : run Go.Bvm.YtacpnpdggbfkgaaDoorTJ.tbl 80 11 l113 ⟨1967, putM P113 t6⟩ (memoK 1969 v113 Q113) = true := by decide +kernel
theorem w113 : wfM 1967 1969 P113 Q113 = true := by decide +kernel
theorem r114 : run Go.Bvm.YtacpnpdggbfkgaaDoorTJ.tbl 80 11 l114 ⟨1980, putM P114 t6⟩ (memoK 1984 v114 Q114) = true := by decide +kernel
theorem w114 : wfM 1980 1984 P114 Q114 = true := by decide +kernel
theorem r115 : run Go.Bvm.YtacpnpdggbfkgaaDoorTJ.tbl 80 11 l115 ⟨1994, putM P115 t6⟩ (memoK 2000 v115 Q115) = true := by decide +kernel
theorem w115 : wfM 1994 2000 P115 Q115 = true := by decide +kernel
theorem r116 : run Go.Bvm.YtacpnpdggbfkgaaDoorTJ.tbl 80 11 l116 ⟨2008, putM P116 t6⟩ (memoK 2010 v116 Q116) = true := by decide +kernel
theorem w116 : wfM 2008 2010 P116 Q116 = true := by decide +kernel
theorem r117 : run Go.Bvm.YtacpnpdggbfkgaaDoorTJ.tbl 80 11 l117 ⟨2021, putM P117 t6⟩ (memoK 2025 v117 Q117) = true := by decide +kernel
theorem w117 : wfM 2021 2025 P117 Q117 = true := by decide +kernel
theorem r118 : run Go.Bvm.YtacpnpdggbfkgaaDoorTJ.tbl 80 11 l118 ⟨2031, putM P118 t6⟩ (memoK 2035 v118 Q118) = true := by decide +kernel
theorem w118 : wfM 2031 2035 P118 Q118 = true := by decide +kernel
theorem r119 : run Go.Bvm.YtacpnpdggbfkgaaDoorTJ.tbl 80 11 l119 ⟨2043, putM P119 t6⟩ (memoK 2049 v119 Q119) = true := by decide +kernel
theorem w119 : wfM 2043 2049 P119 Q119 = true := by decide +kernel
theorem r120 : run Go.Bvm.YtacpnpdggbfkgaaDoorTJ.tbl 80 11 l120 ⟨2064, putM P120 t6⟩ (memoK 2068 v120 Q120) = true := by decide +kernel
theorem w120 : wfM 2064 2068 P120 Q120 = true := by decide +kernel
theorem r121 : run Go.Bvm.YtacpnpdggbfkgaaDoorTJ.tbl 80 11 l121 ⟨2076, putM P121 t6⟩ (memoK 2082 v121 Q121) = true := by decide +kernel
theorem w121 : wfM 2076 2082 P121 Q121 = true := by decide +kernel
theorem r122 : run Go.Bvm.YtacpnpdggbfkgaaDoorTJ.tbl 80 11 l122 ⟨2090, putM P122 t6⟩ (memoK 2092 v122 Q122) = true := by decide +kernel
theorem w122 : wfM 2090 2092 P122 Q122 = true := by decide +kernel
theorem r123 : run Go.Bvm.YtacpnpdggbfkgaaDoorTJ.tbl 80 11 l123 ⟨2103, putM P123 t6⟩ (memoK 2107 v123 Q123) = true := by decide +kernel
theorem w123 : wfM 2103 2107 P123 Q123 = true := by decide +kernel
theorem r124 : run Go.Bvm.YtacpnpdggbfkgaaDoorTJ.tbl 80 11 l124 ⟨2115, putM P124 t6⟩ (memoK 2121 v124 Q124) = true := by decide +kernel
theorem w124 : wfM 2115 2121 P124 Q124 = true := by decide +kernel
theorem r125 : run Go.Bvm.YtacpnpdggbfkgaaDoorTJ.tbl 80 11 l125 ⟨2129, putM P125 t6⟩ (memoK 2131 v125 Q125) = true := by decide +kernel
theorem w125 : wfM 2129 2131 P125 Q125 = true := by decide +kernel
theorem r126 : run Go.Bvm.YtacpnpdggbfkgaaDoorTJ.tbl 80 11 l126 ⟨2142, putM P126 t6⟩ (memoK 2146 v126 Q126) = true := by decide +kernel
theorem w126 : wfM 2142 2146 P126 Q126 = true := by decide +kernel
theorem r127 : run Go.Bvm.YtacpnpdggbfkgaaDoorTJ.tbl 80 11 l127 ⟨2154, putM P127 t6⟩ (memoK 2160 v127 Q127) = true := by decide +kernel
theorem w127 : wfM 2154 2160 P127 Q127 = true := by decide +kernel
theorem r128 : run Go.Bvm.YtacpnpdggbfkgaaDoorTJ.tbl 80 11 l128 ⟨2168, putM P128 t6⟩ (memoK 2170 v128 Q128) = true := by decide +kernel
theorem w128 : wfM 2168 2170 P128 Q128 = true := by decide +kernel
theorem r129 : run Go.Bvm.YtacpnpdggbfkgaaDoorTJ.tbl 80 11 l129 ⟨2181, putM P129 t6⟩ (memoK 2185 v129 Q129) = true := by decide +kernel
theorem w129 : wfM 2181 2185 P129 Q129 = true := by decide +kernel
theorem r130 : run Go.Bvm.YtacpnpdggbfkgaaDoorTJ.tbl 80 11 l130 ⟨2193, putM P130 t6⟩ (memoK 2199 v130 Q130) = true := by decide +kernel
theorem w130 : wfM 2193 2199 P130 Q130 = true := by decide +kernel
theorem r131 : run Go.Bvm.YtacpnpdggbfkgaaDoorTJ.tbl 80 11 l131 ⟨2207, putM P131 t6⟩ (memoK 2209 v131 Q131) = true := by decide +kernel
theorem w131 : wfM 2207 2209 P131 Q131 = true := by decide +kernel
theorem r132 : run Go.Bvm.YtacpnpdggbfkgaaDoorTJ.tbl 80 11 l132 ⟨2220, putM P132 t6⟩ (memoK 2224 v132 Q132) = true := by decide +kernel
theorem w132 : wfM 2220 2224 P132 Q132 = true := by decide +kernel
theorem r133 : run Go.Bvm.YtacpnpdggbfkgaaDoorTJ.tbl 80 11 l133 ⟨2232, putM P133 t6⟩ (memoK 2238 v133 Q133) = true := by decide +kernel
theorem w133 : wfM 2232 2238 P133 Q133 = true := by decide +kernel
theorem r134 : run Go.Bvm.YtacpnpdggbfkgaaDoorTJ.tbl 80 11 l134 ⟨2246, putM P134 t6⟩ (memoK 2248 v134 Q134) = true := by decide +kernel
theorem w134 : wfM 2246 2248 P134 Q134 = true := by decide +kernel
theorem r135 : run Go.Bvm.YtacpnpdggbfkgaaDoorTJ.tbl 80 11 l135 ⟨2259, putM P135 t6⟩ (memoK 2263 v135 Q135) = true := by decide +kernel
theorem w135 : wfM 2259 2263 P135 Q135 = true := by decide +kernel
theorem r136 : run Go.Bvm.YtacpnpdggbfkgaaDoorTJ.tbl 80 11 l136 ⟨2271, putM P136 t6⟩ (memoK 2277 v136 Q136) = true := by decide +kernel
theorem w136 : wfM 2271 2277 P136 Q136 = true := by decide +kernel
theorem r137 : run Go.Bvm.YtacpnpdggbfkgaaDoorTJ.tbl 80 11 l137 ⟨2285, putM P137 t6⟩ (memoK 2287 v137 Q137) = true := by decide +kernel
theorem w137 : wfM 2285 2287 P137 Q137 = true := by decide +kernel
theorem r138 : run Go.Bvm.YtacpnpdggbfkgaaDoorTJ.tbl 80 11 l138 ⟨2298, putM P138 t6⟩ (memoK 2302 v138 Q138) = true := by decide +kernel
theorem w138 : wfM 2298 2302 P138 Q138 = true := by decide +kernel
theorem r139 : run Go.Bvm.YtacpnpdggbfkgaaDoorTJ.tbl 80 11 l139 ⟨2310, putM P139 t6⟩ (memoK 2316 v139 Q139) = true := by decide +kernel
theorem w139 : wfM 2310 2316 P139 Q139 = true := by decide +kernel
theorem r140 : run Go.Bvm.YtacpnpdggbfkgaaDoorTJ.tbl 80 11 l140 ⟨2324, putM P140 t6⟩ (memoK 2326 v140 Q140) = true := by decide +kernel
theorem w140 : wfM 2324 2326 P140 Q140 = true := by decide +kernel
theorem r141 : run Go.Bvm.YtacpnpdggbfkgaaDoorTJ.tbl 80 11 l141 ⟨2337, putM P141 t6⟩ (memoK 2341 v141 Q141) = true := by decide +kernel
theorem w141 : wfM 2337 2341 P141 Q141 = true := by decide +kernel
theorem r142 : run Go.Bvm.YtacpnpdggbfkgaaDoorTJ.tbl 80 11 l142 ⟨2349, putM P142 t6⟩ (memoK 2355 v142 Q142) = true := by decide +kernel
theorem w142 : wfM 2349 2355 P142 Q142 = true := by decide +kernel
theorem r143 : run Go.Bvm.YtacpnpdggbfkgaaDoorTJ.tbl 80 11 l143 ⟨2363, putM P143 t6⟩ (memoK 2365 v143 Q143) = true := by decide +kernel
theorem w143 : wfM 2363 2365 P143 Q143 = true := by decide +kernel
theorem r144 : run Go.Bvm.YtacpnpdggbfkgaaDoorTJ.tbl 80 11 l144 ⟨2376, putM P144 t6⟩ (memoK 2380 v144 Q144) = true := by decide +kernel
theorem w144 : wfM 2376 2380 P144 Q144 = true := by decide +kernel
theorem r145 : run Go.Bvm.YtacpnpdggbfkgaaDoorTJ.tbl 80 11 l145 ⟨2388, putM P145 t6⟩ (memoK 2394 v145 Q145) = true := by decide +kernel
theorem w145 : wfM 2388 2394 P145 Q145 = true := by decide +kernel
theorem r146 : run Go.Bvm.YtacpnpdggbfkgaaDoorTJ.tbl 80 11 l146 ⟨2402, putM P146 t6⟩ (memoK 2404 v146 Q146) = true := by decide +kernel
theorem w146 : wfM 2402 2404 P146 Q146 = true := by decide +kernel
theorem r147 : run Go.Bvm.YtacpnpdggbfkgaaDoorTJ.tbl 80 11 l147 ⟨2415, putM P147 t6⟩ (memoK 2419 v147 Q147) = true := by decide +kernel
theorem w147 : wfM 2415 2419 P147 Q147 = true := by decide +kernel
theorem r148 : run Go.Bvm.YtacpnpdggbfkgaaDoorTJ.tbl 80 11 l148 ⟨2427, putM P148 t6⟩ (memoK 2433 v148 Q148) = true := by decide +kernel
theorem w148 : wfM 2427 2433 P148 Q148 = true := by decide +kernel
theorem r149 : run Go.Bvm.YtacpnpdggbfkgaaDoorTJ.tbl 80 11 l149 ⟨2441, putM P149 t6⟩ (memoK 2443 v149 Q149) = true := by decide +kernel
theorem w149 : wfM 2441 2443 P149 Q149 = true := by decide +kernel
theorem r150 : run Go.Bvm.YtacpnpdggbfkgaaDoorTJ.tbl 80 11 l150 ⟨2454, putM P150 t6⟩ (memoK 2458 v150 Q150) = true := by decide +kernel
theorem w150 : wfM 2454 2458 P150 Q150 = true := by decide +kernel
theorem r151 : run Go.Bvm.YtacpnpdggbfkgaaDoorTJ.tbl 80 11 l151 ⟨2466, putM P151 t6⟩ (memoK 2472 v151 Q151) = true := by decide +kernel
theorem w151 : wfM 2466 2472 P151 Q151 = true := by decide +kernel
theorem r152 : run Go.Bvm.YtacpnpdggbfkgaaDoorTJ.tbl 80 11 l152 ⟨2480, putM P152 t6⟩ (memoK 2482 v152 Q152) = true := by decide +kernel
theorem w152 : wfM 2480 2482 P152 Q152 = true := by decide +kernel
theorem r153 : run Go.Bvm.YtacpnpdggbfkgaaDoorTJ.tbl 80 11 l153 ⟨2487, putM P153 t6⟩ (memoK 2489 v153 Q153) = true := by decide +kernel
theorem w153 : wfM 2487 2489 P153 Q153 = true := by decide +kernel
theorem r154 : run Go.Bvm.YtacpnpdggbfkgaaDoorTJ.tbl 80 11 l154 ⟨2494, putM P154 t6⟩ (memoK 2498 v154 Q154) = true := by decide +kernel
theorem w154 : wfM 2494 2498 P154 Q154 = true := by decide +kernel
theorem r155 : run Go.Bvm.YtacpnpdggbfkgaaDoorTJ.tbl 80 11 l155 ⟨2506, putM P155 t6⟩ (memoK 2512 v155 Q155) = true := by decide +kernel
theorem w155 : wfM 2506 2512 P155 Q155 = true := by decide +kernel
theorem r156 : run Go.Bvm.YtacpnpdggbfkgaaDoorTJ.tbl 80 11 l156 ⟨2520, putM P156 t6⟩ (memoK 2522 v156 Q156) = true := by decide +kernel
theorem w156 : wfM 2520 2522 P156 Q156 = true := by decide +kernel
theorem r157 : run Go.Bvm.YtacpnpdggbfkgaaDoorTJ.tbl 80 11 l157 ⟨2533, putM P157 t6⟩ (memoK 2537 v157 Q157) = true := by decide +kernel
theorem w157 : wfM 2533 2537 P157 Q157 = true := by decide +kernel
theorem r158 : run Go.Bvm.YtacpnpdggbfkgaaDoorTJ.tbl 80 11 l158 ⟨2545, putM P158 t6⟩ (memoK 2551 v158 Q158) = true := by decide +kernel
theorem w158 : wfM 2545 2551 P158 Q158 = true := by decide +kernel
theorem r159 : run Go.Bvm.YtacpnpdggbfkgaaDoorTJ.tbl 80 11 l159 ⟨2559, putM P159 t6⟩ (memoK 2561 v159 Q159) = true := by decide +kernel
theorem w159 : wfM 2559 2561 P159 Q159 = true := by decide +kernel
theorem r160 : run Go.Bvm.YtacpnpdggbfkgaaDoorTJ.tbl 80 11 l160 ⟨2572, putM P160 t6⟩ (memoK 2576 v160 Q160) = true := by decide +kernel
theorem w160 : wfM 2572 2576 P160 Q160 = true := by decide +kernel
theorem r161 : run Go.Bvm.YtacpnpdggbfkgaaDoorTJ.tbl 80 11 l161 ⟨2584, putM P161 t6⟩ (memoK 2590 v161 Q161) = true := by decide +kernel
theorem w161 : wfM 2584 2590 P161 Q161 = true := by decide +kernel
theorem r162 : run Go.Bvm.YtacpnpdggbfkgaaDoorTJ.tbl 80 11 l162 ⟨2598, putM P162 t6⟩ (memoK 2600 v162 Q162) = true := by decide +kernel
theorem w162 : wfM 2598 2600 P162 Q162 = true := by decide +kernel
theorem r163 : run Go.Bvm.YtacpnpdggbfkgaaDoorTJ.tbl 80 11 l163 ⟨2605, putM P163 t6⟩ (memoK 2609 v163 Q163) = true := by decide +kernel
theorem w163 : wfM 2605 2609 P163 Q163 = true := by decide +kernel
theorem r164 : run Go.Bvm.YtacpnpdggbfkgaaDoorTJ.tbl 80 11 l164 ⟨2616, putM P164 t6⟩ (memoK 2620 v164 Q164) = true := by decide +kernel
theorem w164 : wfM 2616 2620 P164 Q164 = true := by decide +kernel
theorem r165 : run Go.Bvm.YtacpnpdggbfkgaaDoorTJ.tbl 80 11 l165 ⟨2630, putM P165 t6⟩ (memoK 2636 v165 Q165) = true := by decide +kernel
theorem w165 : wfM 2630 2636 P165 Q165 = true := by decide +kernel
theorem r166 : run Go.Bvm.YtacpnpdggbfkgaaDoorTJ.tbl 80 11 l166 ⟨2644, putM P166 t6⟩ (memoK 2646 v166 Q166) = true := by decide +kernel
theorem w166 : wfM 2644 2646 P166 Q166 = true := by decide +kernel
theorem r167 : run Go.Bvm.YtacpnpdggbfkgaaDoorTJ.tbl 80 11 l167 ⟨2651, putM P167 t6⟩ (memoK 2655 v167 Q167) = true := by decide +kernel
theorem w167 : wfM 2651 2655 P167 Q167 = true := by decide +kernel
theorem r168 : run Go.Bvm.YtacpnpdggbfkgaaDoorTJ.tbl 80 11 l168 ⟨2662, putM P168 t6⟩ (memoK 2666 v168 Q168) = true := by decide +kernel
theorem w168 : wfM 2662 2666 P168 Q168 = true := by decide +kernel
theorem r169 : run Go.Bvm.YtacpnpdggbfkgaaDoorTJ.tbl 80 11 l169 ⟨2676, putM P169 t6⟩ (memoK 2682 v169 Q169) = true := by decide +kernel
theorem w169 : wfM 2676 2682 P169 Q169 = true := by decide +kernel
theorem r170 : run Go.Bvm.YtacpnpdggbfkgaaDoorTJ.tbl 80 11 l170 ⟨2690, putM P170 t6⟩ (memoK 2692 v170 Q170) = true := by decide +kernel
theorem w170 : wfM 2690 2692 P170 Q170 = true := by decide +kernel
theorem r171 : run Go.Bvm.YtacpnpdggbfkgaaDoorTJ.tbl 80 11 l171 ⟨2697, putM P171 t6⟩ (memoK 2701 v171 Q171) = true := by decide +kernel
theorem w171 : wfM 2697 2701 P171 Q171 = true := by decide +kernel
theorem r172 : run Go.Bvm.YtacpnpdggbfkgaaDoorTJ.tbl 80 11 l172 ⟨2708, putM P172 t6⟩ (memoK 2712 v172 Q172) = true := by decide +kernel
theorem w172 : wfM 2708 2712 P172 Q172 = true := by decide +kernel
theorem r173 : run Go.Bvm.YtacpnpdggbfkgaaDoorTJ.tbl 80 11 l173 ⟨2722, putM P173 t6⟩ (memoK 2728 v173 Q173) = true := by decide +kernel
theorem w173 : wfM 2722 2728 P173 Q173 = true := by decide +kernel
theorem r174 : run Go.Bvm.YtacpnpdggbfkgaaDoorTJ.tbl 80 11 l174 ⟨2736, putM P174 t6⟩ (memoK 2738 v174 Q174) = true := by decide +kernel
theorem w174 : wfM 2736 2738 P174 Q174 = true := by decide +kernel
theorem r175 : run Go.Bvm.YtacpnpdggbfkgaaDoorTJ.tbl 80 11 l175 ⟨2743, putM P175 t6⟩ (memoK 2747 v175 Q175) = true := by decide +kernel
theorem w175 : wfM 2743 2747 P175 Q175 = true := by decide +kernel
theorem r176 : run Go.Bvm.YtacpnpdggbfkgaaDoorTJ.tbl 80 11 l176 ⟨2754, putM P176 t6⟩ (memoK 2758 v176 Q176) = true := by decide +kernel
theorem w176 : wfM 2754 2758 P176 Q176 = true := by decide +kernel
theorem r177 : run Go.Bvm.YtacpnpdggbfkgaaDoorTJ.tbl 80 11 l177 ⟨2768, putM P177 t6⟩ (memoK 2774 v177 Q177) = true := by decide +kernel
theorem w177 : wfM 2768 2774 P177 Q177 = true := by decide +kernel
theorem r178 : run Go.Bvm.YtacpnpdggbfkgaaDoorTJ.tbl 80 11 l178 ⟨2782, putM P178 t6⟩ (memoK 2784 v178 Q178) = true := by decide +kernel
theorem w178 : wfM 2782 2784 P178 Q178 = true := by decide +kernel
theorem r179 : run Go.Bvm.YtacpnpdggbfkgaaDoorTJ.tbl 80 11 l179 ⟨2789, putM P179 t6⟩ (memoK 2793 v179 Q179) = true := by decide +kernel
theorem w179 : wfM 2789 2793 P179 Q179 = true := by decide +kernel
theorem r180 : run Go.Bvm.YtacpnpdggbfkgaaDoorTJ.tbl 80 11 l180 ⟨2800, putM P180 t6⟩ (memoK 2804 v180 Q180) = true := by decide +kernel
theorem w180 : wfM 2800 2804 P180 Q180 = true := by decide +kernel
theorem r181 : run Go.Bvm.YtacpnpdggbfkgaaDoorTJ.tbl 80 11 l181 ⟨2814, putM P181 t6⟩ (memoK 2820 v181 Q181) = true := by decide +kernel
theorem w181 : wfM 2814 2820 P181 Q181 = true := by decide +kernel
theorem r182 : run Go.Bvm.YtacpnpdggbfkgaaDoorTJ.tbl 80 11 l182 ⟨2828, putM P182 t6⟩ (memoK 2830 v182 Q182) = true := by decide +kernel
theorem w182 : wfM 2828 2830 P182 Q182 = true := by decide +kernel
theorem r183 : run Go.Bvm.YtacpnpdggbfkgaaDoorTJ.tbl 80 11 l183 ⟨2835, putM P183 t6⟩ (memoK 2839 v183 Q183) = true := by decide +kernel
theorem w183 : wfM 2835 2839 P183 Q183 = true := by decide +kernel
theorem r184 : run Go.Bvm.YtacpnpdggbfkgaaDoorTJ.tbl 80 11 l184 ⟨2846, putM P184 t6⟩ (memoK 2850 v184 Q184) = true := by decide +kernel
theorem w184 : wfM 2846 2850 P184 Q184 = true := by decide +kernel
theorem r185 : run Go.Bvm.YtacpnpdggbfkgaaDoorTJ.tbl 80 11 l185 ⟨2860, putM P185 t6⟩ (memoK 2866 v185 Q185) = true := by decide +kernel
theorem w185 : wfM 2860 2866 P185 Q185 = true := by decide +kernel
theorem r186 : run Go.Bvm.YtacpnpdggbfkgaaDoorTJ.tbl 80 11 l186 ⟨2874, putM P186 t6⟩ (memoK 2876 v186 Q186) = true := by decide +kernel
theorem w186 : wfM 2874 2876 P186 Q186 = true := by decide +kernel
theorem r187 : run Go.Bvm.YtacpnpdggbfkgaaDoorTJ.tbl 80 11 l187 ⟨2881, putM P187 t6⟩ (memoK 2885 v187 Q187) = true := by decide +kernel
theorem w187 : wfM 2881 2885 P187 Q187 = true := by decide +kernel
theorem r188 : run Go.Bvm.YtacpnpdggbfkgaaDoorTJ.tbl 80 11 l188 ⟨2892, putM P188 t6⟩ (memoK 2896 v188 Q188) = true := by decide +kernel
theorem w188 : wfM 2892 2896 P188 Q188 = true := by decide +kernel
theorem r189 : run Go.Bvm.YtacpnpdggbfkgaaDoorTJ.tbl 80 11 l189 ⟨2906, putM P189 t6⟩ (memoK 2912 v189 Q189) = true := by decide +kernel
theorem w189 : wfM 2906 2912 P189 Q189 = true := by decide +kernel
theorem r190 : run Go.Bvm.YtacpnpdggbfkgaaDoorTJ.tbl 80 11 l190 ⟨2920, putM P190 t6⟩ (memoK 2922 v190 Q190) = true := by decide +kernel
theorem w190 : wfM 2920 2922 P190 Q190 = true := by decide +kernel
theorem r191 : run Go.Bvm.YtacpnpdggbfkgaaDoorTJ.tbl 80 11 l191 ⟨2927, putM P191 t6⟩ (memoK 2931 v191 Q191) = true := by decide +kernel
theorem w191 : wfM 2927 2931 P191 Q191 = true := by decide +kernel
theorem r192 : run Go.Bvm.YtacpnpdggbfkgaaDoorTJ.tbl 80 11 l192 ⟨2938, putM P192 t6⟩ (memoK 2942 v192 Q192) = true := by decide +kernel
theorem w192 : wfM 2938 2942 P192 Q192 = true := by decide +kernel
theorem r193 : run Go.Bvm.YtacpnpdggbfkgaaDoorTJ.tbl 80 11 l193 ⟨2952, putM P193 t6⟩ (memoK 2958 v193 Q193) = true := by decide +kernel
theorem w193 : wfM 2952 2958 P193 Q193 = true := by decide +kernel
theorem r194 : run Go.Bvm.YtacpnpdggbfkgaaDoorTJ.tbl 80 11 l194 ⟨2966, putM P194 t6⟩ (memoK 2968 v194 Q194) = true := by decide +kernel
theorem w194 : wfM 2966 2968 P194 Q194 = true := by decide +kernel
theorem r195 : run Go.Bvm.YtacpnpdggbfkgaaDoorTJ.tbl 80 11 l195 ⟨2973, putM P195 t6⟩ (memoK 2977 v195 Q195) = true := by decide +kernel
theorem w195 : wfM 2973 2977 P195 Q195 = true := by decide +kernel
theorem r196 : run Go.Bvm.YtacpnpdggbfkgaaDoorTJ.tbl 80 11 l196 ⟨2984, putM P196 t6⟩ (memoK 2988 v196 Q196) = true := by decide +kernel
theorem w196 : wfM 2984 2988 P196 Q196 = true := by decide +kernel
theorem r197 : run Go.Bvm.YtacpnpdggbfkgaaDoorTJ.tbl 80 11 l197 ⟨2998, putM P197 t6⟩ (memoK 3004 v197 Q197) = true := by decide +kernel
theorem w197 : wfM 2998 3004 P197 Q197 = true := by decide +kernel
theorem r198 : run Go.Bvm.YtacpnpdggbfkgaaDoorTJ.tbl 80 11 l198 ⟨3012, putM P198 t6⟩ (memoK 3014 v198 Q198) = true := by decide +kernel
theorem w198 : wfM 3012 3014 P198 Q198 = true := by decide +kernel
theorem r199 : run Go.Bvm.YtacpnpdggbfkgaaDoorTJ.tbl 80 11 l199 ⟨3019, putM P199 t6⟩ (memoK 3023 v199 Q199) = true := by decide +kernel
theorem w199 : wfM 3019 3023 P199 Q199 = true := by decide +kernel
theorem r200 : run Go.Bvm.YtacpnpdggbfkgaaDoorTJ.tbl 80 11 l200 ⟨3030, putM P200 t6⟩ (memoK 3034 v200 Q200) = true := by decide +kernel
theorem w200 : wfM 3030 3034 P200 Q200 = true := by decide +kernel
theorem r201 : run Go.Bvm.YtacpnpdggbfkgaaDoorTJ.tbl 80 11 l201 ⟨3044, putM P201 t6⟩ (memoK 3050 v201 Q201) = true := by decide +kernel
theorem w201 : wfM 3044 3050 P201 Q201 = true := by decide +kernel
theorem r202 : run Go.Bvm.YtacpnpdggbfkgaaDoorTJ.tbl 80 11 l202 ⟨3058, putM P202 t6⟩ (memoK 3060 v202 Q202) = true := by decide +kernel
theorem w202 : wfM 3058 3060 P202 Q202 = true := by decide +kernel
theorem r203 : run Go.Bvm.YtacpnpdggbfkgaaDoorTJ.tbl 80 11 l203 ⟨3071, putM P203 t6⟩ (memoK 3075 v203 Q203) = true := by decide +kernel
theorem w203 : wfM 3071 3075 P203 Q203 = true := by decide +kernel
theorem r204 : run Go.Bvm.YtacpnpdggbfkgaaDoorTJ.tbl 80 11 l204 ⟨3083, putM P204 t6⟩ (memoK 3089 v204 Q204) = true := by decide +kernel
theorem w204 : wfM 3083 3089 P204 Q204 = true := by decide +kernel
theorem r205 : run Go.Bvm.YtacpnpdggbfkgaaDoorTJ.tbl 80 11 l205 ⟨3097, putM P205 t6⟩ (memoK 3099 v205 Q205) = true := by decide +kernel
theorem w205 : wfM 3097 3099 P205 Q205 = true := by decide +kernel
theorem r206 : run Go.Bvm.YtacpnpdggbfkgaaDoorTJ.tbl 80 11 l206 ⟨3110, putM P206 t6⟩ (memoK 3114 v206 Q206) = true := by decide +kernel
theorem w206 : wfM 3110 3114 P206 Q206 = true := by decide +kernel
theorem r207 : run Go.Bvm.YtacpnpdggbfkgaaDoorTJ.tbl 80 11 l207 ⟨3122, putM P207 t6⟩ (memoK 3128 v207 Q207) = true := by decide +kernel
theorem w207 : wfM 3122 3128 P207 Q207 = true := by decide +kernel
theorem r208 : run Go.Bvm.YtacpnpdggbfkgaaDoorTJ.tbl 80 11 l208 ⟨3136, putM P208 t6⟩ (memoK 3138 v208 Q208) = true := by decide +kernel
theorem w208 : wfM 3136 3138 P208 Q208 = true := by decide +kernel
theorem r209 : run Go.Bvm.YtacpnpdggbfkgaaDoorTJ.tbl 80 11 l209 ⟨3149, putM P209 t6⟩ (memoK 3153 v209 Q209) = true := by decide +kernel
theorem w209 : wfM 3149 3153 P209 Q209 = true := by decide +kernel
theorem r210 : run Go.Bvm.YtacpnpdggbfkgaaDoorTJ.tbl 80 11 l210 ⟨3161, putM P210 t6⟩ (memoK 3167 v210 Q210) = true := by decide +kernel
theorem w210 : wfM 3161 3167 P210 Q210 = true := by decide +kernel
theorem r211 : run Go.Bvm.YtacpnpdggbfkgaaDoorTJ.tbl 80 11 l211 ⟨3175, putM P211 t6⟩ (memoK 3177 v211 Q211) = true := by decide +kernel
theorem w211 : wfM 3175 3177 P211 Q211 = true := by decide +kernel
theorem r212 : run Go.Bvm.YtacpnpdggbfkgaaDoorTJ.tbl 80 11 l212 ⟨3188, putM P212 t6⟩ (memoK 3192 v212 Q212) = true := by decide +kernel
theorem w212 : wfM 3188 3192 P212 Q212 = true := by decide +kernel
theorem r213 : run Go.Bvm.YtacpnpdggbfkgaaDoorTJ.tbl 80 11 l213 ⟨3200, putM P213 t6⟩ (memoK 3206 v213 Q213) = true := by decide +kernel
theorem w213 : wfM 3200 3206 P213 Q213 = true := by decide +kernel
theorem r214 : run Go.Bvm.YtacpnpdggbfkgaaDoorTJ.tbl 80 11 l214 ⟨3214, putM P214 t6⟩ (memoK 3216 v214 Q214) = true := by decide +kernel
theorem w214 : wfM 3214 3216 P214 Q214 = true := by decide +kernel
theorem r215 : run Go.Bvm.YtacpnpdggbfkgaaDoorTJ.tbl 80 11 l215 ⟨3227, putM P215 t6⟩ (memoK 3231 v215 Q215) = true := by decide +kernel
theorem w215 : wfM 3227 3231 P215 Q215 = true := by decide +kernel
theorem r216 : run Go.Bvm.YtacpnpdggbfkgaaDoorTJ.tbl 80 11 l216 ⟨3239, putM P216 t6⟩ (memoK 3245 v216 Q216) = true := by decide +kernel
theorem w216 : wfM 3239 3245 P216 Q216 = true := by decide +kernel
theorem r217 : run Go.Bvm.YtacpnpdggbfkgaaDoorTJ.tbl 80 11 l217 ⟨3253, putM P217 t6⟩ (memoK 3255 v217 Q217) = true := by decide +kernel
theorem w217 : wfM 3253 3255 P217 Q217 = true := by decide +kernel
theorem r218 : run Go.Bvm.YtacpnpdggbfkgaaDoorTJ.tbl 80 11 l218 ⟨3266, putM P218 t6⟩ (memoK 3270 v218 Q218) = true := by decide +kernel
theorem w218 : wfM 3266 3270 P218 Q218 = true := by decide +kernel
theorem r219 : run Go.Bvm.YtacpnpdggbfkgaaDoorTJ.tbl 80 11 l219 ⟨3278, putM P219 t6⟩ (memoK 3284 v219 Q219) = true := by decide +kernel
theorem w219 : wfM 3278 3284 P219 Q219 = true := by decide +kernel
theorem r220 : run Go.Bvm.YtacpnpdggbfkgaaDoorTJ.tbl 80 11 l220 ⟨3292, putM P220 t6⟩ (memoK 3294 v220 Q220) = true := by decide +kernel
theorem w220 : wfM 3292 3294 P220 Q220 = true := by decide +kernel
theorem r221 : run Go.Bvm.YtacpnpdggbfkgaaDoorTJ.tbl 80 11 l221 ⟨3305, putM P221 t6⟩ (memoK 3309 v221 Q221) = true := by decide +kernel
theorem w221 : wfM 3305 3309 P221 Q221 = true := by decide +kernel
theorem r222 : run Go.Bvm.YtacpnpdggbfkgaaDoorTJ.tbl 80 11 l222 ⟨3317, putM P222 t6⟩ (memoK 3323 v222 Q222) = true := by decide +kernel
theorem w222 : wfM 3317 3323 P222 Q222 = true := by decide +kernel
theorem r223 : run Go.Bvm.YtacpnpdggbfkgaaDoorTJ.tbl 80 11 l223 ⟨3331, putM P223 t6⟩ (memoK 3333 v223 Q223) = true := by decide +kernel
theorem w223 : wfM 3331 3333 P223 Q223 = true := by decide +kernel
theorem r224 : run Go.Bvm.YtacpnpdggbfkgaaDoorTJ.tbl 80 11 l224 ⟨3344, putM P224 t6⟩ (memoK 3348 v224 Q224) = true := by decide +kernel
theorem w224 : wfM 3344 3348 P224 Q224 = true := by decide +kernel
theorem r225 : run Go.Bvm.YtacpnpdggbfkgaaDoorTJ.tbl 80 11 l225 ⟨3356, putM P225 t6⟩ (memoK 3362 v225 Q225) = true := by decide +kernel
theorem w225 : wfM 3356 3362 P225 Q225 = true := by decide +kernel
theorem r226 : run Go.Bvm.YtacpnpdggbfkgaaDoorTJ.tbl 80 11 l226 ⟨3370, putM P226 t6⟩ (memoK 3372 v226 Q226) = true := by decide +kernel
theorem w226 : wfM 3370 3372 P226 Q226 = true := by decide +kernel
theorem r227 : run Go.Bvm.YtacpnpdggbfkgaaDoorTJ.tbl 80 11 l227 ⟨3383, putM P227 t6⟩ (memoK 3387 v227 Q227) = true := by decide +kernel
theorem w227 : wfM 3383 3387 P227 Q227 = true := by decide +kernel
theorem r228 : run Go.Bvm.YtacpnpdggbfkgaaDoorTJ.tbl 80 11 l228 ⟨3395, putM P228 t6⟩ (memoK 3401 v228 Q228) = true := by decide +kernel
theorem w228 : wfM 3395 3401 P228 Q228 = true := by decide +kernel
theorem r229 : run Go.Bvm.YtacpnpdggbfkgaaDoorTJ.tbl 80 11 l229 ⟨3409, putM P229 t6⟩ (memoK 3411 v229 Q229) = true := by decide +kernel
theorem w229 : wfM 3409 3411 P229 Q229 = true := by decide +kernel
theorem r230 : run Go.Bvm.YtacpnpdggbfkgaaDoorTJ.tbl 80 11 l230 ⟨3422, putM P230 t6⟩ (memoK 3426 v230 Q230) = true := by decide +kernel
theorem w230 : wfM 3422 3426 P230 Q230 = true := by decide +kernel
theorem r231 : run Go.Bvm.YtacpnpdggbfkgaaDoorTJ.tbl 80 11 l231 ⟨3434, putM P231 t6⟩ (memoK 3440 v231 Q231) = true := by decide +kernel
theorem w231 : wfM 3434 3440 P231 Q231 = true := by decide +kernel
theorem r232 : run Go.Bvm.YtacpnpdggbfkgaaDoorTJ.tbl 80 11 l232 ⟨3448, putM P232 t6⟩ (memoK 3450 v232 Q232) = true := by decide +kernel
theorem w232 : wfM 3448 3450 P232 Q232 = true := by decide +kernel
theorem r233 : run Go.Bvm.YtacpnpdggbfkgaaDoorTJ.tbl 80 11 l233 ⟨3461, putM P233 t6⟩ (memoK 3465 v233 Q233) = true := by decide +kernel
theorem w233 : wfM 3461 3465 P233 Q233 = true := by decide +kernel
theorem r234 : run Go.Bvm.YtacpnpdggbfkgaaDoorTJ.tbl 80 11 l234 ⟨3473, putM P234 t6⟩ (memoK 3479 v234 Q234) = true := by decide +kernel
theorem w234 : wfM 3473 3479 P234 Q234 = true := by decide +kernel
theorem r235 : run Go.Bvm.YtacpnpdggbfkgaaDoorTJ.tbl 80 11 l235 ⟨3487, putM P235 t6⟩ (memoK 3489 v235 Q235) = true := by decide +kernel
theorem w235 : wfM 3487 3489 P235 Q235 = true := by decide +kernel
theorem r236 : run Go.Bvm.YtacpnpdggbfkgaaDoorTJ.tbl 80 11 l236 ⟨3500, putM P236 t6⟩ (memoK 3504 v236 Q236) = true := by decide +kernel
theorem w236 : wfM 3500 3504 P236 Q236 = true := by decide +kernel
theorem r237 : run Go.Bvm.YtacpnpdggbfkgaaDoorTJ.tbl 80 11 l237 ⟨3512, putM P237 t6⟩ (memoK 3518 v237 Q237) = true := by decide +kernel
theorem w237 : wfM 3512 3518 P237 Q237 = true := by decide +kernel
theorem r238 : run Go.Bvm.YtacpnpdggbfkgaaDoorTJ.tbl 80 11 l238 ⟨3526, putM P238 t6⟩ (memoK 3528 v238 Q238) = true := by decide +kernel
theorem w238 : wfM 3526 3528 P238 Q238 = true := by decide +kernel
theorem r239 : run Go.Bvm.YtacpnpdggbfkgaaDoorTJ.tbl 80 11 l239 ⟨3539, putM P239 t6⟩ (memoK 3543 v239 Q239) = true := by decide +kernel
theorem w239 : wfM 3539 3543 P239 Q239 = true := by decide +kernel
theorem r240 : run Go.Bvm.YtacpnpdggbfkgaaDoorTJ.tbl 80 11 l240 ⟨3551, putM P240 t6⟩ (memoK 3557 v240 Q240) = true := by decide +kernel
theorem w240 : wfM 3551 3557 P240 Q240 = true := by decide +kernel
theorem r241 : run Go.Bvm.YtacpnpdggbfkgaaDoorTJ.tbl 80 11 l241 ⟨3565, putM P241 t6⟩ (memoK 3567 v241 Q241) = true := by decide +kernel
theorem w241 : wfM 3565 3567 P241 Q241 = true := by decide +kernel
theorem r242 : run Go.Bvm.YtacpnpdggbfkgaaDoorTJ.tbl 80 11 l242 ⟨3578, putM P242 t6⟩ (memoK 3582 v242 Q242) = true := by decide +kernel
theorem w242 : wfM 3578 3582 P242 Q242 = true := by decide +kernel
theorem r243 : run Go.Bvm.YtacpnpdggbfkgaaDoorTJ.tbl 80 11 l243 ⟨3590, putM P243 t6⟩ (memoK 3596 v243 Q243) = true := by decide +kernel
theorem w243 : wfM 3590 3596 P243 Q243 = true := by decide +kernel
theorem r244 : run Go.Bvm.YtacpnpdggbfkgaaDoorTJ.tbl 80 11 l244 ⟨3604, putM P244 t6⟩ (memoK 3606 v244 Q244) = true := by decide +kernel
theorem w244 : wfM 3604 3606 P244 Q244 = true := by decide +kernel
theorem r245 : run Go.Bvm.YtacpnpdggbfkgaaDoorTJ.tbl 80 11 l245 ⟨3617, putM P245 t6⟩ (memoK 3621 v245 Q245) = true := by decide +kernel
theorem w245 : wfM 3617 3621 P245 Q245 = true := by decide +kernel
theorem r246 : run Go.Bvm.YtacpnpdggbfkgaaDoorTJ.tbl 80 11 l246 ⟨3629, putM P246 t6⟩ (memoK 3635 v246 Q246) = true := by decide +kernel
theorem w246 : wfM 3629 3635 P246 Q246 = true := by decide +kernel
theorem r247 : run Go.Bvm.YtacpnpdggbfkgaaDoorTJ.tbl 80 11 l247 ⟨3643, putM P247 t6⟩ (memoK 3645 v247 Q247) = true := by decide +kernel
theorem w247 : wfM 3643 3645 P247 Q247 = true := by decide +kernel
theorem r248 : run Go.Bvm.YtacpnpdggbfkgaaDoorTJ.tbl 80 11 l248 ⟨3656, putM P248 t6⟩ (memoK 3660 v248 Q248) = true := by decide +kernel
theorem w248 : wfM 3656 3660 P248 Q248 = true := by decide +kernel
theorem r249 : run Go.Bvm.YtacpnpdggbfkgaaDoorTJ.tbl 80 11 l249 ⟨3668, putM P249 t6⟩ (memoK 3674 v249 Q249) = true := by decide +kernel
theorem w249 : wfM 3668 3674 P249 Q249 = true := by decide +kernel
theorem r250 : run Go.Bvm.YtacpnpdggbfkgaaDoorTJ.tbl 80 11 l250 ⟨3682, putM P250 t6⟩ (memoK 3684 v250 Q250) = true := by decide +kernel
theorem w250 : wfM 3682 3684 P250 Q250 = true := by decide +kernel
theorem r251 : run Go.Bvm.YtacpnpdggbfkgaaDoorTJ.tbl 80 11 l251 ⟨3695, putM P251 t6⟩ (memoK 3699 v251 Q251) = true := by decide +kernel
theorem w251 : wfM 3695 3699 P251 Q251 = true := by decide +kernel
theorem r252 : run Go.Bvm.YtacpnpdggbfkgaaDoorTJ.tbl 80 11 l252 ⟨3707, putM P252 t6⟩ (memoK 3713 v252 Q252) = true := by decide +kernel
theorem w252 : wfM 3707 3713 P252 Q252 = true := by decide +kernel
theorem r253 : run Go.Bvm.YtacpnpdggbfkgaaDoorTJ.tbl 80 11 l253 ⟨3721, putM P253 t6⟩ (memoK 3723 v253 Q253) = true := by decide +kernel
theorem w253 : wfM 3721 3723 P253 Q253 = true := by decide +kernel
theorem r254 : run Go.Bvm.YtacpnpdggbfkgaaDoorTJ.tbl 80 11 l254 ⟨3734, putM P254 t6⟩ (memoK 3738 v254 Q254) = true := by decide +kernel
theorem w254 : wfM 3734 3738 P254 Q254 = true := by decide +kernel
theorem r255 : run Go.Bvm.YtacpnpdggbfkgaaDoorTJ.tbl 80 11 l255 ⟨3746, putM P255 t6⟩ (memoK 3752 v255 Q255) = true := by decide +kernel
theorem w255 : wfM 3746 3752 P255 Q255 = true := by decide +kernel
theorem r256 : run Go.Bvm.YtacpnpdggbfkgaaDoorTJ.tbl 80 11 l256 ⟨3760, putM P256 t6⟩ (memoK 3762 v256 Q256) = true := by decide +kernel
theorem w256 : wfM 3760 3762 P256 Q256 = true := by decide +kernel
theorem r257 : run Go.Bvm.YtacpnpdggbfkgaaDoorTJ.tbl 80 11 l257 ⟨3773, putM P257 t6⟩ (memoK 3777 v257 Q257) = true := by decide +kernel
theorem w257 : wfM 3773 3777 P257 Q257 = true := by decide +kernel
theorem r258 : run Go.Bvm.YtacpnpdggbfkgaaDoorTJ.tbl 80 11 l258 ⟨3785, putM P258 t6⟩ (memoK 3791 v258 Q258) = true := by decide +kernel
theorem w258 : wfM 3785 3791 P258 Q258 = true := by decide +kernel
theorem r259 : run Go.Bvm.YtacpnpdggbfkgaaDoorTJ.tbl 80 11 l259 ⟨3799, putM P259 t6⟩ (memoK 3801 v259 Q259) = true := by decide +kernel
theorem w259 : wfM 3799 3801 P259 Q259 = true := by decide +kernel
theorem r260 : run Go.Bvm.YtacpnpdggbfkgaaDoorTJ.tbl 80 11 l260 ⟨3812, putM P260 t6⟩ (memoK 3816 v260 Q260) = true := by decide +kernel
theorem w260 : wfM 3812 3816 P260 Q260 = true := by decide +kernel
theorem r261 : run Go.Bvm.YtacpnpdggbfkgaaDoorTJ.tbl 80 11 l261 ⟨3824, putM P261 t6⟩ (memoK 3830 v261 Q261) = true := by decide +kernel
theorem w261 : wfM 3824 3830 P261 Q261 = true := by decide +kernel
theorem r262 : run Go.Bvm.YtacpnpdggbfkgaaDoorTJ.tbl 80 11 l262 ⟨3838, putM P262 t6⟩ (memoK 3840 v262 Q262) = true := by decide +kernel
theorem w262 : wfM 3838 3840 P262 Q262 = true := by decide +kernel
theorem r263 : run Go.Bvm.YtacpnpdggbfkgaaDoorTJ.tbl 80 11 l263 ⟨3851, putM P263 t6⟩ (memoK 3855 v263 Q263) = true := by decide +kernel
theorem w263 : wfM 3851 3855 P263 Q263 = true := by decide +kernel
theorem r264 : run Go.Bvm.YtacpnpdggbfkgaaDoorTJ.tbl 80 11 l264 ⟨3863, putM P264 t6⟩ (memoK 3869 v264 Q264) = true := by decide +kernel
theorem w264 : wfM 3863 3869 P264 Q264 = true := by decide +kernel
theorem r265 : run Go.Bvm.YtacpnpdggbfkgaaDoorTJ.tbl 80 11 l265 ⟨3877, putM P265 t6⟩ (memoK 3879 v265 Q265) = true := by decide +kernel
theorem w265 : wfM 3877 3879 P265 Q265 = true := by decide +kernel
theorem r266 : run Go.Bvm.YtacpnpdggbfkgaaDoorTJ.tbl 80 11 l266 ⟨3890, putM P266 t6⟩ (memoK 3894 v266 Q266) = true := by decide +kernel
theorem w266 : wfM 3890 3894 P266 Q266 = true := by decide +kernel
theorem r267 : run Go.Bvm.YtacpnpdggbfkgaaDoorTJ.tbl 80 11 l267 ⟨3902, putM P267 t6⟩ (memoK 3908 v267 Q267) = true := by decide +kernel
theorem w267 : wfM 3902 3908 P267 Q267 = true := by decide +kernel
theorem r268 : run Go.Bvm.YtacpnpdggbfkgaaDoorTJ.tbl 80 11 l268 ⟨3916, putM P268 t6⟩ (memoK 3918 v268 Q268) = true := by decide +kernel
theorem w268 : wfM 3916 3918 P268 Q268 = true := by decide +kernel
theorem r269 : run Go.Bvm.YtacpnpdggbfkgaaDoorTJ.tbl 80 11 l269 ⟨3929, putM P269 t6⟩ (memoK 3933 v269 Q269) = true := by decide +kernel
theorem w269 : wfM 3929 3933 P269 Q269 = true := by decide +kernel
theorem r270 : run Go.Bvm.YtacpnpdggbfkgaaDoorTJ.tbl 80 11 l270 ⟨3941, putM P270 t6⟩ (memoK 3947 v270 Q270) = true := by decide +kernel
theorem w270 : wfM 3941 3947 P270 Q270 = true := by decide +kernel
theorem r271 : run Go.Bvm.YtacpnpdggbfkgaaDoorTJ.tbl 80 11 l271 ⟨3955, putM P271 t6⟩ (memoK 3957 v271 Q271) = true := by decide +kernel
theorem w271 : wfM 3955 3957 P271 Q271 = true := by decide +kernel
theorem r272 : run Go.Bvm.YtacpnpdggbfkgaaDoorTJ.tbl 80 11 l272 ⟨3968, putM P272 t6⟩ (memoK 3972 v272 Q272) = true := by decide +kernel
theorem w272 : wfM 3968 3972 P272 Q272 = true := by decide +kernel
theorem r273 : run Go.Bvm.YtacpnpdggbfkgaaDoorTJ.tbl 80 11 l273 ⟨3980, putM P273 t6⟩ (memoK 3986 v273 Q273) = true := by decide +kernel
theorem w273 : wfM 3980 3986 P273 Q273 = true := by decide +kernel
theorem r274 : run Go.Bvm.YtacpnpdggbfkgaaDoorTJ.tbl 80 11 l274 ⟨3994, putM P274 t6⟩ (memoK 3996 v274 Q274) = true := by decide +kernel
theorem w274 : wfM 3994 3996 P274 Q274 = true := by decide +kernel
theorem r275 : run Go.Bvm.YtacpnpdggbfkgaaDoorTJ.tbl 80 11 l275 ⟨4007, putM P275 t6⟩ (memoK 4011 v275 Q275) = true := by decide +kernel
theorem w275 : wfM 4007 4011 P275 Q275 = true := by decide +kernel
theorem r276 : run Go.Bvm.YtacpnpdggbfkgaaDoorTJ.tbl 80 11 l276 ⟨4019, putM P276 t6⟩ (memoK 4025 v276 Q276) = true := by decide +kernel
theorem w276 : wfM 4019 4025 P276 Q276 = true := by decide +kernel
theorem r277 : run Go.Bvm.YtacpnpdggbfkgaaDoorTJ.tbl 80 11 l277 ⟨4033, putM P277 t6⟩ (memoK 4035 v277 Q277) = true := by decide +kernel
theorem w277 : wfM 4033 4035 P277 Q277 = true := by decide +kernel
theorem r278 : run Go.Bvm.YtacpnpdggbfkgaaDoorTJ.tbl 80 11 l278 ⟨4046, putM P278 t6⟩ (memoK 4050 v278 Q278) = true := by decide +kernel
theorem w278 : wfM 4046 4050 P278 Q278 = true := by decide +kernel
theorem r279 : run Go.Bvm.YtacpnpdggbfkgaaDoorTJ.tbl 80 11 l279 ⟨4058, putM P279 t6⟩ (memoK 4064 v279 Q279) = true := by decide +kernel
theorem w279 : wfM 4058 4064 P279 Q279 = true := by decide +kernel
theorem r280 : run Go.Bvm.YtacpnpdggbfkgaaDoorTJ.tbl 80 11 l280 ⟨4072, putM P280 t6⟩ (memoK 4074 v280 Q280) = true := by decide +kernel
theorem w280 : wfM 4072 4074 P280 Q280 = true := by decide +kernel
theorem r281 : run Go.Bvm.YtacpnpdggbfkgaaDoorTJ.tbl 80 11 l281 ⟨4085, putM P281 t6⟩ (memoK 4089 v281 Q281) = true := by decide +kernel
theorem w281 : wfM 4085 4089 P281 Q281 = true := by decide +kernel
theorem r282 : run Go.Bvm.YtacpnpdggbfkgaaDoorTJ.tbl 80 11 l282 ⟨4097, putM P282 t6⟩ (memoK 4103 v282 Q282) = true := by decide +kernel
theorem w282 : wfM 4097 4103 P282 Q282 = true := by decide +kernel
theorem r283 : run Go.Bvm.YtacpnpdggbfkgaaDoorTJ.tbl 80 11 l283 ⟨4111, putM P283 t6⟩ (memoK 4113 v283 Q283) = true := by decide +kernel
theorem w283 : wfM 4111 4113 P283 Q283 = true := by decide +kernel
theorem r284 : run Go.Bvm.YtacpnpdggbfkgaaDoorTJ.tbl 80 11 l284 ⟨4124, putM P284 t6⟩ (memoK 4128 v284 Q284) = true := by decide +kernel
theorem w284 : wfM 4124 4128 P284 Q284 = true := by decide +kernel
theorem r285 : run Go.Bvm.YtacpnpdggbfkgaaDoorTJ.tbl 80 11 l285 ⟨4136, putM P285 t6⟩ (memoK 4142 v285 Q285) = true := by decide +kernel
theorem w285 : wfM 4136 4142 P285 Q285 = true := by decide +kernel
theorem r286 : run Go.Bvm.YtacpnpdggbfkgaaDoorTJ.tbl 80 11 l286 ⟨4150, putM P286 t6⟩ (memoK 4152 v286 Q286) = true := by decide +kernel
theorem w286 : wfM 4150 4152 P286 Q286 = true := by decide +kernel
theorem r287 : run Go.Bvm.YtacpnpdggbfkgaaDoorTJ.tbl 80 11 l287 ⟨4163, putM P287 t6⟩ (memoK 4167 v287 Q287) = true := by decide +kernel
theorem w287 : wfM 4163 4167 P287 Q287 = true := by decide +kernel
theorem r288 : run Go.Bvm.YtacpnpdggbfkgaaDoorTJ.tbl 80 11 l288 ⟨4175, putM P288 t6⟩ (memoK 4181 v288 Q288) = true := by decide +kernel
theorem w288 : wfM 4175 4181 P288 Q288 = true := by decide +kernel
theorem r289 : run Go.Bvm.YtacpnpdggbfkgaaDoorTJ.tbl 80 11 l289 ⟨4189, putM P289 t6⟩ (memoK 4191 v289 Q289) = true := by decide +kernel
theorem w289 : wfM 4189 4191 P289 Q289 = true := by decide +kernel
theorem r290 : run Go.Bvm.YtacpnpdggbfkgaaDoorTJ.tbl 80 11 l290 ⟨4202, putM P290 t6⟩ (memoK 4206 v290 Q290) = true := by decide +kernel
theorem w290 : wfM 4202 4206 P290 Q290 = true := by decide +kernel
theorem r291 : run Go.Bvm.YtacpnpdggbfkgaaDoorTJ.tbl 80 11 l291 ⟨4214, putM P291 t6⟩ (memoK 4220 v291 Q291) = true := by decide +kernel
theorem w291 : wfM 4214 4220 P291 Q291 = true := by decide +kernel
theorem r292 : run Go.Bvm.YtacpnpdggbfkgaaDoorTJ.tbl 80 11 l292 ⟨4228, putM P292 t6⟩ (memoK 4230 v292 Q292) = true := by decide +kernel
theorem w292 : wfM 4228 4230 P292 Q292 = true := by decide +kernel
theorem r293 : run Go.Bvm.YtacpnpdggbfkgaaDoorTJ.tbl 80 11 l293 ⟨4241, putM P293 t6⟩ (memoK 4245 v293 Q293) = true := by decide +kernel
theorem w293 : wfM 4241 4245 P293 Q293 = true := by decide +kernel
theorem r294 : run Go.Bvm.YtacpnpdggbfkgaaDoorTJ.tbl 80 11 l294 ⟨4253, putM P294 t6⟩ (memoK 4259 v294 Q294) = true := by decide +kernel
theorem w294 : wfM 4253 4259 P294 Q294 = true := by decide +kernel
theorem r295 : run Go.Bvm.YtacpnpdggbfkgaaDoorTJ.tbl 80 11 l295 ⟨4267, putM P295 t6⟩ (memoK 4269 v295 Q295) = true := by decide +kernel
theorem w295 : wfM 4267 4269 P295 Q295 = true := by decide +kernel
theorem r296 : run Go.Bvm.YtacpnpdggbfkgaaDoorTJ.tbl 80 11 l296 ⟨4280, putM P296 t6⟩ (memoK 4284 v296 Q296) = true := by decide +kernel
theorem w296 : wfM 4280 4284 P296 Q296 = true := by decide +kernel
theorem r297 : run Go.Bvm.YtacpnpdggbfkgaaDoorTJ.tbl 80 11 l297 ⟨4292, putM P297 t6⟩ (memoK 4298 v297 Q297) = true := by decide +kernel
theorem w297 : wfM 4292 4298 P297 Q297 = true := by decide +kernel
theorem r298 : run Go.Bvm.YtacpnpdggbfkgaaDoorTJ.tbl 80 11 l298 ⟨4306, putM P298 t6⟩ (memoK 4308 v298 Q298) = true := by decide +kernel
theorem w298 : wfM 4306 4308 P298 Q298 = true := by decide +kernel
theorem r299 : run Go.Bvm.YtacpnpdggbfkgaaDoorTJ.tbl 80 11 l299 ⟨4319, putM P299 t6⟩ (memoK 4323 v299 Q299) = true := by decide +kernel
theorem w299 : wfM 4319 4323 P299 Q299 = true := by decide +kernel
theorem r300 : run Go.Bvm.YtacpnpdggbfkgaaDoorTJ.tbl 80 11 l300 ⟨4331, putM P300 t6⟩ (memoK 4337 v300 Q300) = true := by decide +kernel
theorem w300 : wfM 4331 4337 P300 Q300 = true := by decide +kernel
theorem r301 : run Go.Bvm.YtacpnpdggbfkgaaDoorTJ.tbl 80 11 l301 ⟨4345, putM P301 t6⟩ (memoK 4347 v301 Q301) = true := by decide +kernel
theorem w301 : wfM 4345 4347 P301 Q301 = true := by decide +kernel
theorem r302 : run Go.Bvm.YtacpnpdggbfkgaaDoorTJ.tbl 80 11 l302 ⟨4359, putM P302 t6⟩ (memoK 4364 v302 Q302) = true := by decide +kernel
theorem w302 : wfM 4359 4364 P302 Q302 = true := by decide +kernel
theorem r303 : run Go.Bvm.YtacpnpdggbfkgaaDoorTJ.tbl 80 11 l303 ⟨4369, putM P303 t6⟩ (memoK 4373 v303 Q303) = true := by decide +kernel
theorem w303 : wfM 4369 4373 P303 Q303 = true := by decide +kernel
theorem r304 : run Go.Bvm.YtacpnpdggbfkgaaDoorTJ.tbl 80 11 l304 ⟨4381, putM P304 t6⟩ (memoK 4385 v304 Q304) = true := by decide +kernel
theorem w304 : wfM 4381 4385 P304 Q304 = true := by decide +kernel
theorem r305 : run Go.Bvm.YtacpnpdggbfkgaaDoorTJ.tbl 80 11 l305 ⟨4393, putM P305 t6⟩ (memoK 4399 v305 Q305) = true := by decide +kernel
theorem w305 : wfM 4393 4399 P305 Q305 = true := by decide +kernel
theorem r306 : run Go.Bvm.YtacpnpdggbfkgaaDoorTJ.tbl 80 11 l306 ⟨4412, putM P306 t6⟩ (memoK 4416 v306 Q306) = true := by decide +kernel
theorem w306 : wfM 4412 4416 P306 Q306 = true := by decide +kernel
theorem r307 : run Go.Bvm.YtacpnpdggbfkgaaDoorTJ.tbl 80 11 l307 ⟨4424, putM P307 t6⟩ (memoK 4430 v307 Q307) = true := by decide +kernel
theorem w307 : wfM 4424 4430 P307 Q307 = true := by decide +kernel
theorem r308 : run Go.Bvm.YtacpnpdggbfkgaaDoorTJ.tbl 80 11 l308 ⟨4438, putM P308 t6⟩ (memoK 4440 v308 Q308) = true := by decide +kernel
theorem w308 : wfM 4438 4440 P308 Q308 = true := by decide +kernel
theorem r309 : run Go.Bvm.YtacpnpdggbfkgaaDoorTJ.tbl 80 11 l309 ⟨4451, putM P309 t6⟩ (memoK 4455 v309 Q309) = true := by decide +kernel
theorem w309 : wfM 4451 4455 P309 Q309 = true := by decide +kernel
theorem r310 : run Go.Bvm.YtacpnpdggbfkgaaDoorTJ.tbl 80 11 l310 ⟨4463, putM P310 t6⟩ (memoK 4469 v310 Q310) = true := by decide +kernel
theorem w310 : wfM 4463 4469 P310 Q310 = true := by decide +kernel
theorem r311 : run Go.Bvm.YtacpnpdggbfkgaaDoorTJ.tbl 80 11 l311 ⟨4477, putM P311 t6⟩ (memoK 4479 v311 Q311) = true := by decide +kernel
theorem w311 : wfM 4477 4479 P311 Q311 = true := by decide +kernel
theorem r312 : run Go.Bvm.YtacpnpdggbfkgaaDoorTJ.tbl 80 11 l312 ⟨4490, putM P312 t6⟩ (memoK 4494 v312 Q312) = true := by decide +kernel
theorem w312 : wfM 4490 4494 P312 Q312 = true := by decide +kernel
theorem r313 : run Go.Bvm.YtacpnpdggbfkgaaDoorTJ.tbl 80 11 l313 ⟨4502, putM P313 t6⟩ (memoK 4508 v313 Q313) = true := by decide +kernel
theorem w313 : wfM 4502 4508 P313 Q313 = true := by decide +kernel
theorem r314 : run Go.Bvm.YtacpnpdggbfkgaaDoorTJ.tbl 80 11 l314 ⟨4516, putM P314 t6⟩ (memoK 4518 v314 Q314) = true := by decide +kernel
theorem w314 : wfM 4516 4518 P314 Q314 = true := by decide +kernel
theorem r315 : run Go.Bvm.YtacpnpdggbfkgaaDoorTJ.tbl 80 11 l315 ⟨4529, putM P315 t6⟩ (memoK 4533 v315 Q315) = true := by decide +kernel
theorem w315 : wfM 4529 4533 P315 Q315 = true := by decide +kernel
theorem r316 : run Go.Bvm.YtacpnpdggbfkgaaDoorTJ.tbl 80 11 l316 ⟨4541, putM P316 t6⟩ (memoK 4547 v316 Q316) = true := by decide +kernel
theorem w316 : wfM 4541 4547 P316 Q316 = true := by decide +kernel
theorem r317 : run Go.Bvm.YtacpnpdggbfkgaaDoorTJ.tbl 80 11 l317 ⟨4555, putM P317 t6⟩ (memoK 4557 v317 Q317) = true := by decide +kernel
theorem w317 : wfM 4555 4557 P317 Q317 = true := by decide +kernel
theorem r318 : run Go.Bvm.YtacpnpdggbfkgaaDoorTJ.tbl 80 11 l318 ⟨4568, putM P318 t6⟩ (memoK 4572 v318 Q318) = true := by decide +kernel
theorem w318 : wfM 4568 4572 P318 Q318 = true := by decide +kernel
theorem r319 : run Go.Bvm.YtacpnpdggbfkgaaDoorTJ.tbl 80 11 l319 ⟨4580, putM P319 t6⟩ (memoK 4586 v319 Q319) = true := by decide +kernel
theorem w319 : wfM 4580 4586 P319 Q319 = true := by decide +kernel
theorem r320 : run Go.Bvm.YtacpnpdggbfkgaaDoorTJ.tbl 80 11 l320 ⟨4594, putM P320 t6⟩ (memoK 4596 v320 Q320) = true := by decide +kernel
theorem w320 : wfM 4594 4596 P320 Q320 = true := by decide +kernel
theorem r321 : run Go.Bvm.YtacpnpdggbfkgaaDoorTJ.tbl 80 11 l321 ⟨4607, putM P321 t6⟩ (memoK 4611 v321 Q321) = true := by decide +kernel
theorem w321 : wfM 4607 4611 P321 Q321 = true := by decide +kernel
theorem r322 : run Go.Bvm.YtacpnpdggbfkgaaDoorTJ.tbl 80 11 l322 ⟨4619, putM P322 t6⟩ (memoK 4625 v322 Q322) = true := by decide +kernel
theorem w322 : wfM 4619 4625 P322 Q322 = true := by decide +kernel
theorem r323 : run Go.Bvm.YtacpnpdggbfkgaaDoorTJ.tbl 80 11 l323 ⟨4633, putM P323 t6⟩ (memoK 4635 v323 Q323) = true := by decide +kernel
theorem w323 : wfM 4633 4635 P323 Q323 = true := by decide +kernel
theorem r324 : run Go.Bvm.YtacpnpdggbfkgaaDoorTJ.tbl 80 11 l324 ⟨4646, putM P324 t6⟩ (memoK 4650 v324 Q324) = true := by decide +kernel
theorem w324 : wfM 4646 4650 P324 Q324 = true := by decide +kernel
theorem r325 : run Go.Bvm.YtacpnpdggbfkgaaDoorTJ.tbl 80 11 l325 ⟨4658, putM P325 t6⟩ (memoK 4664 v325 Q325) = true := by decide +kernel
theorem w325 : wfM 4658 4664 P325 Q325 = true := by decide +kernel
theorem r326 : run Go.Bvm.YtacpnpdggbfkgaaDoorTJ.tbl 80 11 l326 ⟨4672, putM P326 t6⟩ (memoK 4674 v326 Q326) = true := by decide +kernel
theorem w326 : wfM 4672 4674 P326 Q326 = true := by decide +kernel
theorem r327 : run Go.Bvm.YtacpnpdggbfkgaaDoorTJ.tbl 80 11 l327 ⟨4685, putM P327 t6⟩ (memoK 4689 v327 Q327) = true := by decide +kernel
theorem w327 : wfM 4685 4689 P327 Q327 = true := by decide +kernel
theorem r328 : run Go.Bvm.YtacpnpdggbfkgaaDoorTJ.tbl 80 11 l328 ⟨4697, putM P328 t6⟩ (memoK 4703 v328 Q328) = true := by decide +kernel
theorem w328 : wfM 4697 4703 P328 Q328 = true := by decide +kernel
theorem r329 : run Go.Bvm.YtacpnpdggbfkgaaDoorTJ.tbl 80 11 l329 ⟨4711, putM P329 t6⟩ (memoK 4713 v329 Q329) = true := by decide +kernel
theorem w329 : wfM 4711 4713 P329 Q329 = true := by decide +kernel
theorem r330 : run Go.Bvm.YtacpnpdggbfkgaaDoorTJ.tbl 80 11 l330 ⟨4724, putM P330 t6⟩ (memoK 4728 v330 Q330) = true := by decide +kernel
theorem w330 : wfM 4724 4728 P330 Q330 = true := by decide +kernel
theorem r331 : run Go.Bvm.YtacpnpdggbfkgaaDoorTJ.tbl 80 11 l331 ⟨4736, putM P331 t6⟩ (memoK 4742 v331 Q331) = true := by decide +kernel
theorem w331 : wfM 4736 4742 P331 Q331 = true := by decide +kernel
theorem r332 : run Go.Bvm.YtacpnpdggbfkgaaDoorTJ.tbl 80 11 l332 ⟨4750, putM P332 t6⟩ (memoK 4752 v332 Q332) = true := by decide +kernel
theorem w332 : wfM 4750 4752 P332 Q332 = true := by decide +kernel
theorem r333 : run Go.Bvm.YtacpnpdggbfkgaaDoorTJ.tbl 80 11 l333 ⟨4763, putM P333 t6⟩ (memoK 4767 v333 Q333) = true := by decide +kernel
theorem w333 : wfM 4763 4767 P333 Q333 = true := by decide +kernel
theorem r334 : run Go.Bvm.YtacpnpdggbfkgaaDoorTJ.tbl 80 11 l334 ⟨4775, putM P334 t6⟩ (memoK 4781 v334 Q334) = true := by decide +kernel
theorem w334 : wfM 4775 4781 P334 Q334 = true := by decide +kernel
theorem r335 : run Go.Bvm.YtacpnpdggbfkgaaDoorTJ.tbl 80 11 l335 ⟨4789, putM P335 t6⟩ (memoK 4791 v335 Q335) = true := by decide +kernel
theorem w335 : wfM 4789 4791 P335 Q335 = true := by decide +kernel
theorem r336 : run Go.Bvm.YtacpnpdggbfkgaaDoorTJ.tbl 80 11 l336 ⟨4797, putM P336 t6⟩ (memoK 4799 v336 Q336) = true := by decide +kernel
theorem w336 : wfM 4797 4799 P336 Q336 = true := by decide +kernel
theorem r337 : run Go.Bvm.YtacpnpdggbfkgaaDoorTJ.tbl 80 11 l337 ⟨4804, putM P337 t6⟩ (memoK 4808 v337 Q337) = true := by decide +kernel
theorem w337 : wfM 4804 4808 P337 Q337 = true := by decide +kernel
theorem r338 : run Go.Bvm.YtacpnpdggbfkgaaDoorTJ.tbl 80 11 l338 ⟨4816, putM P338 t6⟩ (memoK 4822 v338 Q338) = true := by decide +kernel
theorem w338 : wfM 4816 4822 P338 Q338 = true := by decide +kernel
theorem r339 : run Go.Bvm.YtacpnpdggbfkgaaDoorTJ.tbl 80 11 l339 ⟨4830, putM P339 t6⟩ (memoK 4832 v339 Q339) = true := by decide +kernel
theorem w339 : wfM 4830 4832 P339 Q339 = true := by decide +kernel
theorem r340 : run Go.Bvm.YtacpnpdggbfkgaaDoorTJ.tbl 80 11 l340 ⟨4843, putM P340 t6⟩ (memoK 4847 v340 Q340) = true := by decide +kernel
theorem w340 : wfM 4843 4847 P340 Q340 = true := by decide +kernel
theorem r341 : run Go.Bvm.YtacpnpdggbfkgaaDoorTJ.tbl 80 11 l341 ⟨4855, putM P341 t6⟩ (memoK 4861 v341 Q341) = true := by decide +kernel
theorem w341 : wfM 4855 4861 P341 Q341 = true := by decide +kernel
theorem r342 : run Go.Bvm.YtacpnpdggbfkgaaDoorTJ.tbl 80 11 l342 ⟨4869, putM P342 t6⟩ (memoK 4871 v342 Q342) = true := by decide +kernel
theorem w342 : wfM 4869 4871 P342 Q342 = true := by decide +kernel
theorem r343 : run Go.Bvm.YtacpnpdggbfkgaaDoorTJ.tbl 80 11 l343 ⟨4882, putM P343 t6⟩ (memoK 4886 v343 Q343) = true := by decide +kernel
theorem w343 : wfM 4882 4886 P343 Q343 = true := by decide +kernel
theorem r344 : run Go.Bvm.YtacpnpdggbfkgaaDoorTJ.tbl 80 11 l344 ⟨4894, putM P344 t6⟩ (memoK 4900 v344 Q344) = true := by decide +kernel
theorem w344 : wfM 4894 4900 P344 Q344 = true := by decide +kernel
theorem r345 : run Go.Bvm.YtacpnpdggbfkgaaDoorTJ.tbl 80 11 l345 ⟨4908, putM P345 t6⟩ (memoK 4910 v345 Q345) = true := by decide +kernel
theorem w345 : wfM 4908 4910 P345 Q345 = true := by decide +kernel
theorem r346 : run Go.Bvm.YtacpnpdggbfkgaaDoorTJ.tbl 80 11 l346 ⟨4921, putM P346 t6⟩ (memoK 4925 v346 Q346) = true := by decide +kernel
theorem w346 : wfM 4921 4925 P346 Q346 = true := by decide +kernel
theorem r347 : run Go.Bvm.YtacpnpdggbfkgaaDoorTJ.tbl 80 11 l347 ⟨4933, putM P347 t6⟩ (memoK 4939 v347 Q347) = true := by decide +kernel
theorem w347 : wfM 4933 4939 P347 Q347 = true := by decide +kernel
theorem r348 : run Go.Bvm.YtacpnpdggbfkgaaDoorTJ.tbl 80 11 l348 ⟨4947, putM P348 t6⟩ (memoK 4949 v348 Q348) = true := by decide +kernel
theorem w348 : wfM 4947 4949 P348 Q348 = true := by decide +kernel
theorem r349 : run Go.Bvm.YtacpnpdggbfkgaaDoorTJ.tbl 80 11 l349 ⟨4960, putM P349 t6⟩ (memoK 4964 v349 Q349) = true := by decide +kernel
theorem w349 : wfM 4960 4964 P349 Q349 = true := by decide +kernel
theorem r350 : run Go.Bvm.YtacpnpdggbfkgaaDoorTJ.tbl 80 11 l350 ⟨4972, putM P350 t6⟩ (memoK 4978 v350 Q350) = true := by decide +kernel
theorem w350 : wfM 4972 4978 P350 Q350 = true := by decide +kernel
theorem r351 : run Go.Bvm.YtacpnpdggbfkgaaDoorTJ.tbl 80 11 l351 ⟨4986, putM P351 t6⟩ (memoK 4988 v351 Q351) = true := by decide +kernel
theorem w351 : wfM 4986 4988 P351 Q351 = true := by decide +kernel
theorem r352 : run Go.Bvm.YtacpnpdggbfkgaaDoorTJ.tbl 80 11 l352 ⟨4999, putM P352 t6⟩ (memoK 5003 v352 Q352) = true := by decide +kernel
theorem w352 : wfM 4999 5003 P352 Q352 = true := by decide +kernel
theorem r353 : run Go.Bvm.YtacpnpdggbfkgaaDoorTJ.tbl 80 11 l353 ⟨5011, putM P353 t6⟩ (memoK 5017 v353 Q353) = true := by decide +kernel
theorem w353 : wfM 5011 5017 P353 Q353 = true := by decide +kernel
theorem r354 : run Go.Bvm.YtacpnpdggbfkgaaDoorTJ.tbl 80 11 l354 ⟨5025, putM P354 t6⟩ (memoK 5027 v354 Q354) = true := by decide +kernel
theorem w354 : wfM 5025 5027 P354 Q354 = true := by decide +kernel
theorem r355 : run Go.Bvm.YtacpnpdggbfkgaaDoorTJ.tbl 80 11 l355 ⟨5038, putM P355 t6⟩ (memoK 5042 v355 Q355) = true := by decide +kernel
theorem w355 : wfM 5038 5042 P355 Q355 = true := by decide +kernel
theorem r356 : run Go.Bvm.YtacpnpdggbfkgaaDoorTJ.tbl 80 11 l356 ⟨5050, putM P356 t6⟩ (memoK 5056 v356 Q356) = true := by decide +kernel
theorem w356 : wfM 5050 5056 P356 Q356 = true := by decide +kernel
theorem r357 : run Go.Bvm.YtacpnpdggbfkgaaDoorTJ.tbl 80 11 l357 ⟨5064, putM P357 t6⟩ (memoK 5066 v357 Q357) = true := by decide +kernel
theorem w357 : wfM 5064 5066 P357 Q357 = true := by decide +kernel
theorem r358 : run Go.Bvm.YtacpnpdggbfkgaaDoorTJ.tbl 80 11 l358 ⟨5077, putM P358 t6⟩ (memoK 5081 v358 Q358) = true := by decide +kernel
theorem w358 : wfM 5077 5081 P358 Q358 = true := by decide +kernel
theorem r359 : run Go.Bvm.YtacpnpdggbfkgaaDoorTJ.tbl 80 11 l359 ⟨5089, putM P359 t6⟩ (memoK 5095 v359 Q359) = true := by decide +kernel
theorem w359 : wfM 5089 5095 P359 Q359 = true := by decide +kernel
theorem r360 : run Go.Bvm.YtacpnpdggbfkgaaDoorTJ.tbl 80 11 l360 ⟨5103, putM P360 t6⟩ (memoK 5105 v360 Q360) = true := by decide +kernel
theorem w360 : wfM 5103 5105 P360 Q360 = true := by decide +kernel
theorem r361 : run Go.Bvm.YtacpnpdggbfkgaaDoorTJ.tbl 80 11 l361 ⟨5111, putM P361 t6⟩ (memoK 5113 v361 Q361) = true := by decide +kernel
theorem w361 : wfM 5111 5113 P361 Q361 = true := by decide +kernel
theorem r362 : run Go.Bvm.YtacpnpdggbfkgaaDoorTJ.tbl 80 11 l362 ⟨5118, putM P362 t6⟩ (memoK 5122 v362 Q362) = true := by decide +kernel
theorem w362 : wfM 5118 5122 P362 Q362 = true := by decide +kernel
theorem r363 : run Go.Bvm.YtacpnpdggbfkgaaDoorTJ.tbl 80 11 l363 ⟨5130, putM P363 t6⟩ (memoK 5136 v363 Q363) = true := by decide +kernel
theorem w363 : wfM 5130 5136 P363 Q363 = true := by decide +kernel
theorem r364 : run Go.Bvm.YtacpnpdggbfkgaaDoorTJ.tbl 80 11 l364 ⟨5144, putM P364 t6⟩ (memoK 5146 v364 Q364) = true := by decide +kernel
theorem w364 : wfM 5144 5146 P364 Q364 = true := by decide +kernel
theorem r365 : run Go.Bvm.YtacpnpdggbfkgaaDoorTJ.tbl 80 11 l365 ⟨5157, putM P365 t6⟩ (memoK 5161 v365 Q365) = true := by decide +kernel
theorem w365 : wfM 5157 5161 P365 Q365 = true := by decide +kernel
theorem r366 : run Go.Bvm.YtacpnpdggbfkgaaDoorTJ.tbl 80 11 l366 ⟨5169, putM P366 t6⟩ (memoK 5175 v366 Q366) = true := by decide +kernel
theorem w366 : wfM 5169 5175 P366 Q366 = true := by decide +kernel
theorem r367 : run Go.Bvm.YtacpnpdggbfkgaaDoorTJ.tbl 80 11 l367 ⟨5183, putM P367 t6⟩ (memoK 5185 v367 Q367) = true := by decide +kernel
theorem w367 : wfM 5183 5185 P367 Q367 = true := by decide +kernel
theorem r368 : run Go.Bvm.YtacpnpdggbfkgaaDoorTJ.tbl 80 11 l368 ⟨5196, putM P368 t6⟩ (memoK 5200 v368 Q368) = true := by decide +kernel
theorem w368 : wfM 5196 5200 P368 Q368 = true := by decide +kernel
theorem r369 : run Go.Bvm.YtacpnpdggbfkgaaDoorTJ.tbl 80 11 l369 ⟨5208, putM P369 t6⟩ (memoK 5214 v369 Q369) = true := by decide +kernel
theorem w369 : wfM 5208 5214 P369 Q369 = true := by decide +kernel
theorem r370 : run Go.Bvm.YtacpnpdggbfkgaaDoorTJ.tbl 80 11 l370 ⟨5222, putM P370 t6⟩ (memoK 5224 v370 Q370) = true := by decide +kernel
theorem w370 : wfM 5222 5224 P370 Q370 = true := by decide +kernel
theorem r371 : run Go.Bvm.YtacpnpdggbfkgaaDoorTJ.tbl 80 11 l371 ⟨5235, putM P371 t6⟩ (memoK 5239 v371 Q371) = true := by decide +kernel
theorem w371 : wfM 5235 5239 P371 Q371 = true := by decide +kernel
theorem r372 : run Go.Bvm.YtacpnpdggbfkgaaDoorTJ.tbl 80 11 l372 ⟨5247, putM P372 t6⟩ (memoK 5253 v372 Q372) = true := by decide +kernel
theorem w372 : wfM 5247 5253 P372 Q372 = true := by decide +kernel
theorem r373 : run Go.Bvm.YtacpnpdggbfkgaaDoorTJ.tbl 80 11 l373 ⟨5261, putM P373 t6⟩ (memoK 5263 v373 Q373) = true := by decide +kernel
theorem w373 : wfM 5261 5263 P373 Q373 = true := by decide +kernel
theorem r374 : run Go.Bvm.YtacpnpdggbfkgaaDoorTJ.tbl 80 11 l374 ⟨5274, putM P374 t6⟩ (memoK 5278 v374 Q374) = true := by decide +kernel
theorem w374 : wfM 5274 5278 P374 Q374 = true := by decide +kernel
theorem r375 : run Go.Bvm.YtacpnpdggbfkgaaDoorTJ.tbl 80 11 l375 ⟨5286, putM P375 t6⟩ (memoK 5292 v375 Q375) = true := by decide +kernel
theorem w375 : wfM 5286 5292 P375 Q375 = true := by decide +kernel
theorem r376 : run Go.Bvm.YtacpnpdggbfkgaaDoorTJ.tbl 80 11 l376 ⟨5300, putM P376 t6⟩ (memoK 5302 v376 Q376) = true := by decide +kernel
theorem w376 : wfM 5300 5302 P376 Q376 = true := by decide +kernel
theorem r377 : run Go.Bvm.YtacpnpdggbfkgaaDoorTJ.tbl 80 11 l377 ⟨5313, putM P377 t6⟩ (memoK 5317 v377 Q377) = true := by decide +kernel
theorem w377 : wfM 5313 5317 P377 Q377 = true := by decide +kernel
theorem r378 : run Go.Bvm.YtacpnpdggbfkgaaDoorTJ.tbl 80 11 l378 ⟨5325, putM P378 t6⟩ (memoK 5331 v378 Q378) = true := by decide +kernel
theorem w378 : wfM 5325 5331 P378 Q378 = true := by decide +kernel
theorem r379 : run Go.Bvm.YtacpnpdggbfkgaaDoorTJ.tbl 80 11 l379 ⟨5339, putM P379 t6⟩ (memoK 5341 v379 Q379) = true := by decide +kernel
theorem w379 : wfM 5339 5341 P379 Q379 = true := by decide +kernel
theorem r380 : run Go.Bvm.YtacpnpdggbfkgaaDoorTJ.tbl 80 11 l380 ⟨5347, putM P380 t6⟩ (memoK 5349 v380 Q380) = true := by decide +kernel
theorem w380 : wfM 5347 5349 P380 Q380 = true := by decide +kernel
theorem r381 : run Go.Bvm.YtacpnpdggbfkgaaDoorTJ.tbl 80 11 l381 ⟨5354, putM P381 t6⟩ (memoK 5358 v381 Q381) = true := by decide +kernel
theorem w381 : wfM 5354 5358 P381 Q381 = true := by decide +kernel
theorem r382 : run Go.Bvm.YtacpnpdggbfkgaaDoorTJ.tbl 80 11 l382 ⟨5366, putM P382 t6⟩ (memoK 5372 v382 Q382) = true := by decide +kernel
theorem w382 : wfM 5366 5372 P382 Q382 = true := by decide +kernel
theorem r383 : run Go.Bvm.YtacpnpdggbfkgaaDoorTJ.tbl 80 11 l383 ⟨5380, putM P383 t6⟩ (memoK 5382 v383 Q383) = true := by decide +kernel
theorem w383 : wfM 5380 5382 P383 Q383 = true := by decide +kernel
theorem r384 : run Go.Bvm.YtacpnpdggbfkgaaDoorTJ.tbl 80 11 l384 ⟨5393, putM P384 t6⟩ (memoK 5397 v384 Q384) = true := by decide +kernel
theorem w384 : wfM 5393 5397 P384 Q384 = true := by decide +kernel
theorem r385 : run Go.Bvm.YtacpnpdggbfkgaaDoorTJ.tbl 80 11 l385 ⟨5405, putM P385 t6⟩ (memoK 5411 v385 Q385) = true := by decide +kernel
theorem w385 : wfM 5405 5411 P385 Q385 = true := by decide +kernel
theorem r386 : run Go.Bvm.YtacpnpdggbfkgaaDoorTJ.tbl 80 11 l386 ⟨5419, putM P386 t6⟩ (memoK 5421 v386 Q386) = true := by decide +kernel
theorem w386 : wfM 5419 5421 P386 Q386 = true := by decide +kernel
theorem r387 : run Go.Bvm.YtacpnpdggbfkgaaDoorTJ.tbl 80 11 l387 ⟨5432, putM P387 t6⟩ (memoK 5436 v387 Q387) = true := by decide +kernel
theorem w387 : wfM 5432 5436 P387 Q387 = true := by decide +kernel
theorem r388 : run Go.Bvm.YtacpnpdggbfkgaaDoorTJ.tbl 80 11 l388 ⟨5444, putM P388 t6⟩ (memoK 5450 v388 Q388) = true := by decide +kernel
theorem w388 : wfM 5444 5450 P388 Q388 = true := by decide +kernel
theorem r389 : run Go.Bvm.YtacpnpdggbfkgaaDoorTJ.tbl 80 11 l389 ⟨5458, putM P389 t6⟩ (memoK 5460 v389 Q389) = true := by decide +kernel
theorem w389 : wfM 5458 5460 P389 Q389 = true := by decide +kernel
theorem r390 : run Go.Bvm.YtacpnpdggbfkgaaDoorTJ.tbl 80 11 l390 ⟨5471, putM P390 t6⟩ (memoK 5475 v390 Q390) = true := by decide +kernel
theorem w390 : wfM 5471 5475 P390 Q390 = true := by decide +kernel
theorem r391 : run Go.Bvm.YtacpnpdggbfkgaaDoorTJ.tbl 80 11 l391 ⟨5483, putM P391 t6⟩ (memoK 5489 v391 Q391) = true := by decide +kernel
theorem w391 : wfM 5483 5489 P391 Q391 = true := by decide +kernel
theorem r392 : run Go.Bvm.YtacpnpdggbfkgaaDoorTJ.tbl 80 11 l392 ⟨5497, putM P392 t6⟩ (memoK 5499 v392 Q392) = true := by decide +kernel
theorem w392 : wfM 5497 5499 P392 Q392 = true := by decide +kernel
theorem r393 : run Go.Bvm.YtacpnpdggbfkgaaDoorTJ.tbl 80 11 l393 ⟨5510, putM P393 t6⟩ (memoK 5514 v393 Q393) = true := by decide +kernel
theorem w393 : wfM 5510 5514 P393 Q393 = true := by decide +kernel
theorem r394 : run Go.Bvm.YtacpnpdggbfkgaaDoorTJ.tbl 80 11 l394 ⟨5522, putM P394 t6⟩ (memoK 5528 v394 Q394) = true := by decide +kernel
theorem w394 : wfM 5522 5528 P394 Q394 = true := by decide +kernel
theorem r395 : run Go.Bvm.YtacpnpdggbfkgaaDoorTJ.tbl 80 11 l395 ⟨5536, putM P395 t6⟩ (memoK 5538 v395 Q395) = true := by decide +kernel
theorem w395 : wfM 5536 5538 P395 Q395 = true := by decide +kernel
theorem r396 : run Go.Bvm.YtacpnpdggbfkgaaDoorTJ.tbl 80 11 l396 ⟨5549, putM P396 t6⟩ (memoK 5553 v396 Q396) = true := by decide +kernel
theorem w396 : wfM 5549 5553 P396 Q396 = true := by decide +kernel
theorem r397 : run Go.Bvm.YtacpnpdggbfkgaaDoorTJ.tbl 80 11 l397 ⟨5561, putM P397 t6⟩ (memoK 5567 v397 Q397) = true := by decide +kernel
theorem w397 : wfM 5561 5567 P397 Q397 = true := by decide +kernel
theorem r398 : run Go.Bvm.YtacpnpdggbfkgaaDoorTJ.tbl 80 11 l398 ⟨5575, putM P398 t6⟩ (memoK 5577 v398 Q398) = true := by decide +kernel
theorem w398 : wfM 5575 5577 P398 Q398 = true := by decide +kernel
theorem r399 : run Go.Bvm.YtacpnpdggbfkgaaDoorTJ.tbl 80 11 l399 ⟨5588, putM P399 t6⟩ (memoK 5592 v399 Q399) = true := by decide +kernel
theorem w399 : wfM 5588 5592 P399 Q399 = true := by decide +kernel
theorem r400 : run Go.Bvm.YtacpnpdggbfkgaaDoorTJ.tbl 80 11 l400 ⟨5600, putM P400 t6⟩ (memoK 5606 v400 Q400) = true := by decide +kernel
theorem w400 : wfM 5600 5606 P400 Q400 = true := by decide +kernel
theorem r401 : run Go.Bvm.YtacpnpdggbfkgaaDoorTJ.tbl 80 11 l401 ⟨5614, putM P401 t6⟩ (memoK 5616 v401 Q401) = true := by decide +kernel
theorem w401 : wfM 5614 5616 P401 Q401 = true := by decide +kernel
theorem r402 : run Go.Bvm.YtacpnpdggbfkgaaDoorTJ.tbl 80 11 l402 ⟨5630, putM P402 t6⟩ (memoK 5637 v402 Q402) = true := by decide +kernel
theorem w402 : wfM 5630 5637 P402 Q402 = true := by decide +kernel
theorem r403 : run Go.Bvm.YtacpnpdggbfkgaaDoorTJ.tbl 80 11 l403 ⟨5642, putM P403 t6⟩ (memoK 5646 v403 Q403) = true := by decide +kernel
theorem w403 : wfM 5642 5646 P403 Q403 = true := by decide +kernel
theorem r404 : run Go.Bvm.YtacpnpdggbfkgaaDoorTJ.tbl 80 11 l404 ⟨5654, putM P404 t6⟩ (memoK 5660 v404 Q404) = true := by decide +kernel
theorem w404 : wfM 5654 5660 P404 Q404 = true := by decide +kernel
theorem r405 : run Go.Bvm.YtacpnpdggbfkgaaDoorTJ.tbl 80 11 l405 ⟨5668, putM P405 t6⟩ (memoK 5670 v405 Q405) = true := by decide +kernel
theorem w405 : wfM 5668 5670 P405 Q405 = true := by decide +kernel
theorem r406 : run Go.Bvm.YtacpnpdggbfkgaaDoorTJ.tbl 80 11 l406 ⟨5681, putM P406 t6⟩ (memoK 5685 v406 Q406) = true := by decide +kernel
theorem w406 : wfM 5681 5685 P406 Q406 = true := by decide +kernel
theorem r407 : run Go.Bvm.YtacpnpdggbfkgaaDoorTJ.tbl 80 11 l407 ⟨5693, putM P407 t6⟩ (memoK 5699 v407 Q407) = true := by decide +kernel
theorem w407 : wfM 5693 5699 P407 Q407 = true := by decide +kernel
theorem r408 : run Go.Bvm.YtacpnpdggbfkgaaDoorTJ.tbl 80 11 l408 ⟨5707, putM P408 t6⟩ (memoK 5709 v408 Q408) = true := by decide +kernel
theorem w408 : wfM 5707 5709 P408 Q408 = true := by decide +kernel
theorem r409 : run Go.Bvm.YtacpnpdggbfkgaaDoorTJ.tbl 80 11 l409 ⟨5720, putM P409 t6⟩ (memoK 5724 v409 Q409) = true := by decide +kernel
theorem w409 : wfM 5720 5724 P409 Q409 = true := by decide +kernel
theorem r410 : run Go.Bvm.YtacpnpdggbfkgaaDoorTJ.tbl 80 11 l410 ⟨5732, putM P410 t6⟩ (memoK 5738 v410 Q410) = true := by decide +kernel
theorem w410 : wfM 5732 5738 P410 Q410 = true := by decide +kernel
theorem r411 : run Go.Bvm.YtacpnpdggbfkgaaDoorTJ.tbl 80 11 l411 ⟨5746, putM P411 t6⟩ (memoK 5748 v411 Q411) = true := by decide +kernel
theorem w411 : wfM 5746 5748 P411 Q411 = true := by decide +kernel
theorem r412 : run Go.Bvm.YtacpnpdggbfkgaaDoorTJ.tbl 80 11 l412 ⟨5759, putM P412 t6⟩ (memoK 5763 v412 Q412) = true := by decide +kernel
theorem w412 : wfM 5759 5763 P412 Q412 = true := by decide +kernel
theorem r413 : run Go.Bvm.YtacpnpdggbfkgaaDoorTJ.tbl 80 11 l413 ⟨5769, putM P413 t6⟩ (memoK 5773 v413 Q413) = true := by decide +kernel
theorem w413 : wfM 5769 5773 P413 Q413 = true := by decide +kernel
theorem r414 : run Go.Bvm.YtacpnpdggbfkgaaDoorTJ.tbl 80 11 l414 ⟨5779, putM P414 t6⟩ (memoK 5781 v414 Q414) = true := by decide +kernel
theorem w414 : wfM 5779 5781 P414 Q414 = true := by decide +kernel
theorem r415 : run Go.Bvm.YtacpnpdggbfkgaaDoorTJ.tbl 80 11 l415 ⟨5792, putM P415 t6⟩ (memoK 5796 v415 Q415) = true := by decide +kernel
theorem w415 : wfM 5792 5796 P415 Q415 = true := by decide +kernel
theorem r416 : run Go.Bvm.YtacpnpdggbfkgaaDoorTJ.tbl 80 11 l416 ⟨5802, putM P416 t6⟩ (memoK 5806 v416 Q416) = true := by decide +kernel
theorem w416 : wfM 5802 5806 P416 Q416 = true := by decide +kernel
theorem r417 : run Go.Bvm.YtacpnpdggbfkgaaDoorTJ.tbl 80 11 l417 ⟨5812, putM P417 t6⟩ (memoK 5814 v417 Q417) = true := by decide +kernel
theorem w417 : wfM 5812 5814 P417 Q417 = true := by decide +kernel
theorem r418 : run Go.Bvm.YtacpnpdggbfkgaaDoorTJ.tbl 80 11 l418 ⟨5825, putM P418 t6⟩ (memoK 5829 v418 Q418) = true := by decide +kernel
theorem w418 : wfM 5825 5829 P418 Q418 = true := by decide +kernel
theorem r419 : run Go.Bvm.YtacpnpdggbfkgaaDoorTJ.tbl 80 11 l419 ⟨5835, putM P419 t6⟩ (memoK 5839 v419 Q419) = true := by decide +kernel
theorem w419 : wfM 5835 5839 P419 Q419 = true := by decide +kernel
theorem r420 : run Go.Bvm.YtacpnpdggbfkgaaDoorTJ.tbl 80 11 l420 ⟨5845, putM P420 t6⟩ (memoK 5847 v420 Q420) = true := by decide +kernel
theorem w420 : wfM 5845 5847 P420 Q420 = true := by decide +kernel
theorem r421 : run Go.Bvm.YtacpnpdggbfkgaaDoorTJ.tbl 80 11 l421 ⟨5858, putM P421 t6⟩ (memoK 5862 v421 Q421) = true := by decide +kernel
theorem w421 : wfM 5858 5862 P421 Q421 = true := by decide +kernel
theorem r422 : run Go.Bvm.YtacpnpdggbfkgaaDoorTJ.tbl 80 11 l422 ⟨5868, putM P422 t6⟩ (memoK 5872 v422 Q422) = true := by decide +kernel
theorem w422 : wfM 5868 5872 P422 Q422 = true := by decide +kernel
theorem r423 : run Go.Bvm.YtacpnpdggbfkgaaDoorTJ.tbl 80 11 l423 ⟨5878, putM P423 t6⟩ (memoK 5880 v423 Q423) = true := by decide +kernel
theorem w423 : wfM 5878 5880 P423 Q423 = true := by decide +kernel
theorem r424 : run Go.Bvm.YtacpnpdggbfkgaaDoorTJ.tbl 80 11 l424 ⟨5891, putM P424 t6⟩ (memoK 5895 v424 Q424) = true := by decide +kernel
theorem w424 : wfM 5891 5895 P424 Q424 = true := by decide +kernel
theorem r425 : run Go.Bvm.YtacpnpdggbfkgaaDoorTJ.tbl 80 11 l425 ⟨5901, putM P425 t6⟩ (memoK 5905 v425 Q425) = true := by decide +kernel
theorem w425 : wfM 5901 5905 P425 Q425 = true := by decide +kernel
theorem r426 : run Go.Bvm.YtacpnpdggbfkgaaDoorTJ.tbl 80 11 l426 ⟨5911, putM P426 t6⟩ (memoK 5913 v426 Q426) = true := by decide +kernel
theorem w426 : wfM 5911 5913 P426 Q426 = true := by decide +kernel
theorem r427 : run Go.Bvm.YtacpnpdggbfkgaaDoorTJ.tbl 80 11 l427 ⟨5924, putM P427 t6⟩ (memoK 5928 v427 Q427) = true := by decide +kernel
theorem w427 : wfM 5924 5928 P427 Q427 = true := by decide +kernel
theorem r428 : run Go.Bvm.YtacpnpdggbfkgaaDoorTJ.tbl 80 11 l428 ⟨5934, putM P428 t6⟩ (memoK 5938 v428 Q428) = true := by decide +kernel
theorem w428 : wfM 5934 5938 P428 Q428 = true := by decide +kernel
theorem r429 : run Go.Bvm.YtacpnpdggbfkgaaDoorTJ.tbl 80 11 l429 ⟨5944, putM P429 t6⟩ (memoK 5946 v429 Q429) = true := by decide +kernel
theorem w429 : wfM 5944 5946 P429 Q429 = true := by decide +kernel
theorem r430 : run Go.Bvm.YtacpnpdggbfkgaaDoorTJ.tbl 80 11 l430 ⟨5957, putM P430 t6⟩ (memoK 5961 v430 Q430) = true := by decide +kernel
theorem w430 : wfM 5957 5961 P430 Q430 = true := by decide +kernel
theorem r431 : run Go.Bvm.YtacpnpdggbfkgaaDoorTJ.tbl 80 11 l431 ⟨5967, putM P431 t6⟩ (memoK 5971 v431 Q431) = true := by decide +kernel
theorem w431 : wfM 5967 5971 P431 Q431 = true := by decide +kernel
theorem r432 : run Go.Bvm.YtacpnpdggbfkgaaDoorTJ.tbl 80 11 l432 ⟨5977, putM P432 t6⟩ (memoK 5979 v432 Q432) = true := by decide +kernel
theorem w432 : wfM 5977 5979 P432 Q432 = true := by decide +kernel
theorem r433 : run Go.Bvm.YtacpnpdggbfkgaaDoorTJ.tbl 80 11 l433 ⟨5990, putM P433 t6⟩ (memoK 5994 v433 Q433) = true := by decide +kernel
theorem w433 : wfM 5990 5994 P433 Q433 = true := by decide +kernel
theorem r434 : run Go.Bvm.YtacpnpdggbfkgaaDoorTJ.tbl 80 11 l434 ⟨6000, putM P434 t6⟩ (memoK 6004 v434 Q434) = true := by decide +kernel
theorem w434 : wfM 6000 6004 P434 Q434 = true := by decide +kernel
theorem r435 : run Go.Bvm.YtacpnpdggbfkgaaDoorTJ.tbl 80 11 l435 ⟨6010, putM P435 t6⟩ (memoK 6012 v435 Q435) = true := by decide +kernel
theorem w435 : wfM 6010 6012 P435 Q435 = true := by decide +kernel
theorem r436 : run Go.Bvm.YtacpnpdggbfkgaaDoorTJ.tbl 80 11 l436 ⟨6023, putM P436 t6⟩ (memoK 6027 v436 Q436) = true := by decide +kernel
theorem w436 : wfM 6023 6027 P436 Q436 = true := by decide +kernel
theorem r437 : run Go.Bvm.YtacpnpdggbfkgaaDoorTJ.tbl 80 11 l437 ⟨6033, putM P437 t6⟩ (memoK 6037 v437 Q437) = true := by decide +kernel
theorem w437 : wfM 6033 6037 P437 Q437 = true := by decide +kernel
theorem r438 : run Go.Bvm.YtacpnpdggbfkgaaDoorTJ.tbl 80 11 l438 ⟨6043, putM P438 t6⟩ (memoK 6045 v438 Q438) = true := by decide +kernel
theorem w438 : wfM 6043 6045 P438 Q438 = true := by decide +kernel
theorem r439 : run Go.Bvm.YtacpnpdggbfkgaaDoorTJ.tbl 80 11 l439 ⟨6056, putM P439 t6⟩ (memoK 6060 v439 Q439) = true := by decide +kernel
theorem w439 : wfM 6056 6060 P439 Q439 = true := by decide +kernel
theorem r440 : run Go.Bvm.YtacpnpdggbfkgaaDoorTJ.tbl 80 11 l440 ⟨6066, putM P440 t6⟩ (memoK 6070 v440 Q440) = true := by decide +kernel
theorem w440 : wfM 6066 6070 P440 Q440 = true := by decide +kernel
theorem r441 : run Go.Bvm.YtacpnpdggbfkgaaDoorTJ.tbl 80 11 l441 ⟨6076, putM P441 t6⟩ (memoK 6078 v441 Q441) = true := by decide +kernel
theorem w441 : wfM 6076 6078 P441 Q441 = true := by decide +kernel
theorem r442 : run Go.Bvm.YtacpnpdggbfkgaaDoorTJ.tbl 80 11 l442 ⟨6089, putM P442 t6⟩ (memoK 6093 v442 Q442) = true := by decide +kernel
theorem w442 : wfM 6089 6093 P442 Q442 = true := by decide +kernel
theorem r443 : run Go.Bvm.YtacpnpdggbfkgaaDoorTJ.tbl 80 11 l443 ⟨6099, putM P443 t6⟩ (memoK 6103 v443 Q443) = true := by decide +kernel
theorem w443 : wfM 6099 6103 P443 Q443 = true := by decide +kernel
theorem r444 : run Go.Bvm.YtacpnpdggbfkgaaDoorTJ.tbl 80 11 l444 ⟨6109, putM P444 t6⟩ (memoK 6111 v444 Q444) = true := by decide +kernel
theorem w444 : wfM 6109 6111 P444 Q444 = true := by decide +kernel
theorem r445 : run Go.Bvm.YtacpnpdggbfkgaaDoorTJ.tbl 80 11 l445 ⟨6122, putM P445 t6⟩ (memoK 6126 v445 Q445) = true := by decide +kernel
theorem w445 : wfM 6122 6126 P445 Q445 = true := by decide +kernel
theorem r446 : run Go.Bvm.YtacpnpdggbfkgaaDoorTJ.tbl 80 11 l446 ⟨6132, putM P446 t6⟩ (memoK 6136 v446 Q446) = true := by decide +kernel
theorem w446 : wfM 6132 6136 P446 Q446 = true := by decide +kernel
theorem r447 : run Go.Bvm.YtacpnpdggbfkgaaDoorTJ.tbl 80 11 l447 ⟨6142, putM P447 t6⟩ (memoK 6144 v447 Q447) = true := by decide +kernel
theorem w447 : wfM 6142 6144 P447 Q447 = true := by decide +kernel
theorem r448 : run Go.Bvm.YtacpnpdggbfkgaaDoorTJ.tbl 80 11 l448 ⟨6155, putM P448 t6⟩ (memoK 6159 v448 Q448) = true := by decide +kernel
theorem w448 : wfM 6155 6159 P448 Q448 = true := by decide +kernel
theorem r449 : run Go.Bvm.YtacpnpdggbfkgaaDoorTJ.tbl 80 11 l449 ⟨6165, putM P449 t6⟩ (memoK 6169 v449 Q449) = true := by decide +kernel
theorem w449 : wfM 6165 6169 P449 Q449 = true := by decide +kernel
theorem r450 : run Go.Bvm.YtacpnpdggbfkgaaDoorTJ.tbl 80 11 l450 ⟨6175, putM P450 t6⟩ (memoK 6177 v450 Q450) = true := by decide +kernel
theorem w450 : wfM 6175 6177 P450 Q450 = true := by decide +kernel
theorem r451 : run Go.Bvm.YtacpnpdggbfkgaaDoorTJ.tbl 80 11 l451 ⟨6188, putM P451 t6⟩ (memoK 6192 v451 Q451) = true := by decide +kernel
theorem w451 : wfM 6188 6192 P451 Q451 = true := by decide +kernel
theorem r452 : run Go.Bvm.YtacpnpdggbfkgaaDoorTJ.tbl 80 11 l452 ⟨6198, putM P452 t6⟩ (memoK 6202 v452 Q452) = true := by decide +kernel
theorem w452 : wfM 6198 6202 P452 Q452 = true := by decide +kernel
theorem r453 : run Go.Bvm.YtacpnpdggbfkgaaDoorTJ.tbl 80 11 l453 ⟨6208, putM P453 t6⟩ (memoK 6210 v453 Q453) = true := by decide +kernel
theorem w453 : wfM 6208 6210 P453 Q453 = true := by decide +kernel
theorem r454 : run Go.Bvm.YtacpnpdggbfkgaaDoorTJ.tbl 80 11 l454 ⟨6221, putM P454 t6⟩ (memoK 6225 v454 Q454) = true := by decide +kernel
theorem w454 : wfM 6221 6225 P454 Q454 = true := by decide +kernel
theorem r455 : run Go.Bvm.YtacpnpdggbfkgaaDoorTJ.tbl 80 11 l455 ⟨6231, putM P455 t6⟩ (memoK 6235 v455 Q455) = true := by decide +kernel
theorem w455 : wfM 6231 6235 P455 Q455 = true := by decide +kernel
theorem r456 : run Go.Bvm.YtacpnpdggbfkgaaDoorTJ.tbl 80 11 l456 ⟨6241, putM P456 t6⟩ (memoK 6243 v456 Q456) = true := by decide +kernel
theorem w456 : wfM 6241 6243 P456 Q456 = true := by decide +kernel
theorem r457 : run Go.Bvm.YtacpnpdggbfkgaaDoorTJ.tbl 80 11 l457 ⟨6254, putM P457 t6⟩ (memoK 6258 v457 Q457) = true := by decide +kernel
theorem w457 : wfM 6254 6258 P457 Q457 = true := by decide +kernel
theorem r458 : run Go.Bvm.YtacpnpdggbfkgaaDoorTJ.tbl 80 11 l458 ⟨6264, putM P458 t6⟩ (memoK 6268 v458 Q458) = true := by decide +kernel
theorem w458 : wfM 6264 6268 P458 Q458 = true := by decide +kernel
theorem r459 : run Go.Bvm.YtacpnpdggbfkgaaDoorTJ.tbl 80 11 l459 ⟨6274, putM P459 t6⟩ (memoK 6276 v459 Q459) = true := by decide +kernel
theorem w459 : wfM 6274 6276 P459 Q459 = true := by decide +kernel
theorem r460 : run Go.Bvm.YtacpnpdggbfkgaaDoorTJ.tbl 80 11 l460 ⟨6287, putM P460 t6⟩ (memoK 6291 v460 Q460) = true := by decide +kernel
theorem w460 : wfM 6287 6291 P460 Q460 = true := by decide +kernel
theorem r461 : run Go.Bvm.YtacpnpdggbfkgaaDoorTJ.tbl 80 11 l461 ⟨6297, putM P461 t6⟩ (memoK 6301 v461 Q461) = true := by decide +kernel
theorem w461 : wfM 6297 6301 P461 Q461 = true := by decide +kernel
theorem r462 : run Go.Bvm.YtacpnpdggbfkgaaDoorTJ.tbl 80 11 l462 ⟨6307, putM P462 t6⟩ (memoK 6309 v462 Q462) = true := by decide +kernel
theorem w462 : wfM 6307 6309 P462 Q462 = true := by decide +kernel
theorem r463 : run Go.Bvm.YtacpnpdggbfkgaaDoorTJ.tbl 80 11 l463 ⟨6320, putM P463 t6⟩ (memoK 6324 v463 Q463) = true := by decide +kernel
theorem w463 : wfM 6320 6324 P463 Q463 = true := by decide +kernel
theorem r464 : run Go.Bvm.YtacpnpdggbfkgaaDoorTJ.tbl 80 11 l464 ⟨6330, putM P464 t6⟩ (memoK 6334 v464 Q464) = true := by decide +kernel
theorem w464 : wfM 6330 6334 P464 Q464 = true := by decide +kernel
theorem r465 : run Go.Bvm.YtacpnpdggbfkgaaDoorTJ.tbl 80 11 l465 ⟨6340, putM P465 t6⟩ (memoK 6342 v465 Q465) = true := by decide +kernel
theorem w465 : wfM 6340 6342 P465 Q465 = true := by decide +kernel
theorem r466 : run Go.Bvm.YtacpnpdggbfkgaaDoorTJ.tbl 80 11 l466 ⟨6353, putM P466 t6⟩ (memoK 6357 v466 Q466) = true := by decide +kernel
theorem w466 : wfM 6353 6357 P466 Q466 = true := by decide +kernel
theorem r467 : run Go.Bvm.YtacpnpdggbfkgaaDoorTJ.tbl 80 11 l467 ⟨6363, putM P467 t6⟩ (memoK 6367 v467 Q467) = true := by decide +kernel
theorem w467 : wfM 6363 6367 P467 Q467 = true := by decide +kernel
theorem r468 : run Go.Bvm.YtacpnpdggbfkgaaDoorTJ.tbl 80 11 l468 ⟨6373, putM P468 t6⟩ (memoK 6375 v468 Q468) = true := by decide +kernel
theorem w468 : wfM 6373 6375 P468 Q468 = true := by decide +kernel
theorem r469 : run Go.Bvm.YtacpnpdggbfkgaaDoorTJ.tbl 80 11 l469 ⟨6386, putM P469 t6⟩ (memoK 6390 v469 Q469) = true := by decide +kernel
theorem w469 : wfM 6386 6390 P469 Q469 = true := by decide +kernel
theorem r470 : run Go.Bvm.YtacpnpdggbfkgaaDoorTJ.tbl 80 11 l470 ⟨6396, putM P470 t6⟩ (memoK 6400 v470 Q470) = true := by decide +kernel
theorem w470 : wfM 6396 6400 P470 Q470 = true := by decide +kernel
theorem r471 : run Go.Bvm.YtacpnpdggbfkgaaDoorTJ.tbl 80 11 l471 ⟨6406, putM P471 t6⟩ (memoK 6408 v471 Q471) = true := by decide +kernel
theorem w471 : wfM 6406 6408 P471 Q471 = true := by decide +kernel
theorem r472 : run Go.Bvm.YtacpnpdggbfkgaaDoorTJ.tbl 80 11 l472 ⟨6419, putM P472 t6⟩ (memoK 6423 v472 Q472) = true := by decide +kernel
theorem w472 : wfM 6419 6423 P472 Q472 = true := by decide +kernel
theorem r473 : run Go.Bvm.YtacpnpdggbfkgaaDoorTJ.tbl 80 11 l473 ⟨6429, putM P473 t6⟩ (memoK 6433 v473 Q473) = true := by decide +kernel
theorem w473 : wfM 6429 6433 P473 Q473 = true := by decide +kernel
theorem r474 : run Go.Bvm.YtacpnpdggbfkgaaDoorTJ.tbl 80 11 l474 ⟨6439, putM P474 t6⟩ (memoK 6441 v474 Q474) = true := by decide +kernel
theorem w474 : wfM 6439 6441 P474 Q474 = true := by decide +kernel
theorem r475 : run Go.Bvm.YtacpnpdggbfkgaaDoorTJ.tbl 80 11 l475 ⟨6452, putM P475 t6⟩ (memoK 6456 v475 Q475) = true := by decide +kernel
theorem w475 : wfM 6452 6456 P475 Q475 = true := by decide +kernel
theorem r476 : run Go.Bvm.YtacpnpdggbfkgaaDoorTJ.tbl 80 11 l476 ⟨6462, putM P476 t6⟩ (memoK 6466 v476 Q476) = true := by decide +kernel
theorem w476 : wfM 6462 6466 P476 Q476 = true := by decide +kernel
theorem r477 : run Go.Bvm.YtacpnpdggbfkgaaDoorTJ.tbl 80 11 l477 ⟨6472, putM P477 t6⟩ (memoK 6474 v477 Q477) = true := by decide +kernel
theorem w477 : wfM 6472 6474 P477 Q477 = true := by decide +kernel
theorem r478 : run Go.Bvm.YtacpnpdggbfkgaaDoorTJ.tbl 80 11 l478 ⟨6485, putM P478 t6⟩ (memoK 6489 v478 Q478) = true := by decide +kernel
theorem w478 : wfM 6485 6489 P478 Q478 = true := by decide +kernel
theorem r479 : run Go.Bvm.YtacpnpdggbfkgaaDoorTJ.tbl 80 11 l479 ⟨6495, putM P479 t6⟩ (memoK 6499 v479 Q479) = true := by decide +kernel
theorem w479 : wfM 6495 6499 P479 Q479 = true := by decide +kernel
theorem r480 : run Go.Bvm.YtacpnpdggbfkgaaDoorTJ.tbl 80 11 l480 ⟨6505, putM P480 t6⟩ (memoK 6507 v480 Q480) = true := by decide +kernel
theorem w480 : wfM 6505 6507 P480 Q480 = true := by decide +kernel
theorem r481 : run Go.Bvm.YtacpnpdggbfkgaaDoorTJ.tbl 80 11 l481 ⟨6518, putM P481 t6⟩ (memoK 6522 v481 Q481) = true := by decide +kernel
theorem w481 : wfM 6518 6522 P481 Q481 = true := by decide +kernel
theorem r482 : run Go.Bvm.YtacpnpdggbfkgaaDoorTJ.tbl 80 11 l482 ⟨6528, putM P482 t6⟩ (memoK 6532 v482 Q482) = true := by decide +kernel
theorem w482 : wfM 6528 6532 P482 Q482 = true := by decide +kernel
theorem r483 : run Go.Bvm.YtacpnpdggbfkgaaDoorTJ.tbl 80 11 l483 ⟨6538, putM P483 t6⟩ (memoK 6540 v483 Q483) = true := by decide +kernel
theorem w483 : wfM 6538 6540 P483 Q483 = true := by decide +kernel
theorem r484 : run Go.Bvm.YtacpnpdggbfkgaaDoorTJ.tbl 80 11 l484 ⟨6551, putM P484 t6⟩ (memoK 6555 v484 Q484) = true := by decide +kernel
theorem w484 : wfM 6551 6555 P484 Q484 = true := by decide +kernel
theorem r485 : run Go.Bvm.YtacpnpdggbfkgaaDoorTJ.tbl 80 11 l485 ⟨6561, putM P485 t6⟩ (memoK 6565 v485 Q485) = true := by decide +kernel
theorem w485 : wfM 6561 6565 P485 Q485 = true := by decide +kernel
theorem r486 : run Go.Bvm.YtacpnpdggbfkgaaDoorTJ.tbl 80 11 l486 ⟨6571, putM P486 t6⟩ (memoK 6573 v486 Q486) = true := by decide +kernel
theorem w486 : wfM 6571 6573 P486 Q486 = true := by decide +kernel
theorem r487 : run Go.Bvm.YtacpnpdggbfkgaaDoorTJ.tbl 80 11 l487 ⟨6584, putM P487 t6⟩ (memoK 6588 v487 Q487) = true := by decide +kernel
theorem w487 : wfM 6584 6588 P487 Q487 = true := by decide +kernel
theorem r488 : run Go.Bvm.YtacpnpdggbfkgaaDoorTJ.tbl 80 11 l488 ⟨6594, putM P488 t6⟩ (memoK 6598 v488 Q488) = true := by decide +kernel
theorem w488 : wfM 6594 6598 P488 Q488 = true := by decide +kernel
theorem r489 : run Go.Bvm.YtacpnpdggbfkgaaDoorTJ.tbl 80 11 l489 ⟨6604, putM P489 t6⟩ (memoK 6606 v489 Q489) = true := by decide +kernel
theorem w489 : wfM 6604 6606 P489 Q489 = true := by decide +kernel
theorem r490 : run Go.Bvm.YtacpnpdggbfkgaaDoorTJ.tbl 80 11 l490 ⟨6617, putM P490 t6⟩ (memoK 6621 v490 Q490) = true := by decide +kernel
theorem w490 : wfM 6617 6621 P490 Q490 = true := by decide +kernel
theorem r491 : run Go.Bvm.YtacpnpdggbfkgaaDoorTJ.tbl 80 11 l491 ⟨6627, putM P491 t6⟩ (memoK 6631 v491 Q491) = true := by decide +kernel
theorem w491 : wfM 6627 6631 P491 Q491 = true := by decide +kernel
theorem r492 : run Go.Bvm.YtacpnpdggbfkgaaDoorTJ.tbl 80 11 l492 ⟨6637, putM P492 t6⟩ (memoK 6639 v492 Q492) = true := by decide +kernel
theorem w492 : wfM 6637 6639 P492 Q492 = true := by decide +kernel
theorem r493 : run Go.Bvm.YtacpnpdggbfkgaaDoorTJ.tbl 80 11 l493 ⟨6650, putM P493 t6⟩ (memoK 6654 v493 Q493) = true := by decide +kernel
theorem w493 : wfM 6650 6654 P493 Q493 = true := by decide +kernel
theorem r494 : run Go.Bvm.YtacpnpdggbfkgaaDoorTJ.tbl 80 11 l494 ⟨6660, putM P494 t6⟩ (memoK 6664 v494 Q494) = true := by decide +kernel
theorem w494 : wfM 6660 6664 P494 Q494 = true := by decide +kernel
theorem r495 : run Go.Bvm.YtacpnpdggbfkgaaDoorTJ.tbl 80 11 l495 ⟨6670, putM P495 t6⟩ (memoK 6672 v495 Q495) = true := by decide +kernel
theorem w495 : wfM 6670 6672 P495 Q495 = true := by decide +kernel
theorem r496 : run Go.Bvm.YtacpnpdggbfkgaaDoorTJ.tbl 80 11 l496 ⟨6683, putM P496 t6⟩ (memoK 6687 v496 Q496) = true := by decide +kernel
theorem w496 : wfM 6683 6687 P496 Q496 = true := by decide +kernel
theorem r497 : run Go.Bvm.YtacpnpdggbfkgaaDoorTJ.tbl 80 11 l497 ⟨6693, putM P497 t6⟩ (memoK 6697 v497 Q497) = true := by decide +kernel
theorem w497 : wfM 6693 6697 P497 Q497 = true := by decide +kernel
theorem r498 : run Go.Bvm.YtacpnpdggbfkgaaDoorTJ.tbl 80 11 l498 ⟨6703, putM P498 t6⟩ (memoK 6705 v498 Q498) = true := by decide +kernel
theorem w498 : wfM 6703 6705 P498 Q498 = true := by decide +kernel
theorem r499 : run Go.Bvm.YtacpnpdggbfkgaaDoorTJ.tbl 80 11 l499 ⟨6716, putM P499 t6⟩ (memoK 6720 v499 Q499) = true := by decide +kernel
theorem w499 : wfM 6716 6720 P499 Q499 = true := by decide +kernel
end Go.Bvm.YtacpnpdggbfkgaaDoorMJsonStrings
