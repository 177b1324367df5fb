/- Calls of the law AnswerStatus, run apart. Conditions: none. -/
import Derived.Test.YtfcknednlkfmpaaGreatDoorMAnswerStatusD
import Derived.Test.YtfcknednlkfmpaaGreatDoorTS
set_option maxRecDepth 100000
namespace Go.Bvm.YtfcknednlkfmpaaGreatDoorMAnswerStatus
open Go.Bvm.YtfcknednlkfmpaaGreatDoorTS
theorem r38 : run tbl 80 19 l38 ⟨12096, putM P38 t6⟩ (memoK 12719 v38 Q38) = true := by decide +kernel
theorem w38 : wfM 12096 12719 P38 Q38 = true := by decide +kernel
theorem r39 : run tbl 80 20 l39 ⟨12720, putM P39 t6⟩ (memoK 12848 v39 Q39) = true := by decide +kernel
theorem w39 : wfM 12720 12848 P39 Q39 = true := by decide +kernel
theorem r40 : run tbl 80 19 l40 ⟨13120, putM P40 t6⟩ (memoK 13880 v40 Q40) = true := by decide +kernel
theorem w40 : wfM 13120 13880 P40 Q40 = true := by decide +kernel
theorem r41 : run tbl 80 20 l41 ⟨13881, putM P41 t6⟩ (memoK 14134 v41 Q41) = true := by decide +kernel
theorem w41 : wfM 13881 14134 P41 Q41 = true := by decide +kernel
theorem r42 : run tbl 80 19 l42 ⟨14147, putM P42 t6⟩ (memoK 14907 v42 Q42) = true := by decide +kernel
theorem w42 : wfM 14147 14907 P42 Q42 = true := by decide +kernel
theorem r43 : run tbl 80 20 l43 ⟨14908, putM P43 t6⟩ (memoK 15161 v43 Q43) = true := by decide +kernel
theorem w43 : wfM 14908 15161 P43 Q43 = true := by decide +kernel
theorem r44 : run tbl 80 19 l44 ⟨15174, putM P44 t6⟩ (memoK 15934 v44 Q44) = true := by decide +kernel
theorem w44 : wfM 15174 15934 P44 Q44 = true := by decide +kernel
theorem r45 : run tbl 80 20 l45 ⟨15935, putM P45 t6⟩ (memoK 16188 v45 Q45) = true := by decide +kernel
theorem w45 : wfM 15935 16188 P45 Q45 = true := by decide +kernel
theorem r46 : run tbl 80 19 l46 ⟨16201, putM P46 t6⟩ (memoK 16961 v46 Q46) = true := by decide +kernel
theorem w46 : wfM 16201 16961 P46 Q46 = true := by decide +kernel
theorem r47 : run tbl 80 20 l47 ⟨16962, putM P47 t6⟩ (memoK 17215 v47 Q47) = true := by decide +kernel
theorem w47 : wfM 16962 17215 P47 Q47 = true := by decide +kernel
theorem r48 : run tbl 80 19 l48 ⟨17440, putM P48 t6⟩ (memoK 18063 v48 Q48) = true := by decide +kernel
theorem w48 : wfM 17440 18063 P48 Q48 = true := by decide +kernel
theorem r49 : run tbl 80 20 l49 ⟨18064, putM P49 t6⟩ (memoK 18192 v49 Q49) = true := by decide +kernel
theorem w49 : wfM 18064 18192 P49 Q49 = true := by decide +kernel
theorem r50 : run tbl 80 19 l50 ⟨18193, putM P50 t6⟩ (memoK 18816 v50 Q50) = true := by decide +kernel
theorem w50 : wfM 18193 18816 P50 Q50 = true := by decide +kernel
theorem r51 : run tbl 80 20 l51 ⟨18817, putM P51 t6⟩ (memoK 18945 v51 Q51) = true := by decide +kernel
theorem w51 : wfM 18817 18945 P51 Q51 = true := by decide +kernel
theorem r52 : run tbl 80 19 l52 ⟨18946, putM P52 t6⟩ (memoK 19569 v52 Q52) = true := by decide +kernel
theorem w52 : wfM 18946 19569 P52 Q52 = true := by decide +kernel
theorem r53 : run tbl 80 20 l53 ⟨19570, putM P53 t6⟩ (memoK 19698 v53 Q53) = true := by decide +kernel
theorem w53 : wfM 19570 19698 P53 Q53 = true := by decide +kernel
theorem r54 : run tbl 80 19 l54 ⟨19699, putM P54 t6⟩ (memoK 20322 v54 Q54) = true := by decide +kernel
theorem w54 : wfM 19699 20322 P54 Q54 = true := by decide +kernel
theorem r55 : run tbl 80 20 l55 ⟨20323, putM P55 t6⟩ (memoK 20451 v55 Q55) = true := by decide +kernel
theorem w55 : wfM 20323 20451 P55 Q55 = true := by decide +kernel
theorem r56 : run tbl 80 19 l56 ⟨20697, putM P56 t6⟩ (memoK 21320 v56 Q56) = true := by decide +kernel
theorem w56 : wfM 20697 21320 P56 Q56 = true := by decide +kernel
theorem r57 : run tbl 80 20 l57 ⟨21321, putM P57 t6⟩ (memoK 21449 v57 Q57) = true := by decide +kernel
theorem w57 : wfM 21321 21449 P57 Q57 = true := by decide +kernel
theorem r58 : run tbl 80 19 l58 ⟨21450, putM P58 t6⟩ (memoK 22073 v58 Q58) = true := by decide +kernel
theorem w58 : wfM 21450 22073 P58 Q58 = true := by decide +kernel
theorem r59 : run tbl 80 20 l59 ⟨22074, putM P59 t6⟩ (memoK 22202 v59 Q59) = true := by decide +kernel
theorem w59 : wfM 22074 22202 P59 Q59 = true := by decide +kernel
theorem r60 : run tbl 80 19 l60 ⟨22203, putM P60 t6⟩ (memoK 22826 v60 Q60) = true := by decide +kernel
theorem w60 : wfM 22203 22826 P60 Q60 = true := by decide +kernel
theorem r61 : run tbl 80 20 l61 ⟨22827, putM P61 t6⟩ (memoK 22955 v61 Q61) = true := by decide +kernel
theorem w61 : wfM 22827 22955 P61 Q61 = true := by decide +kernel
end Go.Bvm.YtfcknednlkfmpaaGreatDoorMAnswerStatus
