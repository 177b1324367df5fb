/- Calls of the law AnswerStatus, run apart. Conditions: none. -/
import Derived.Test.YtfcknednlkfmpaaGreatDoorMAnswerStatusD
import Derived.Test.YtfcknednlkfmpaaGreatDoorTS
set_option maxRecDepth 100000
namespace Go.Bvm.YtfcknednlkfmpaaGreatDoorMAnswerStatus
open Go.Bvm.YtfcknednlkfmpaaGreatDoorTS
theorem r62 : run tbl 80 19 l62 ⟨22956, putM P62 t6⟩ (memoK 23579 v62 Q62) = true := by decide +kernel
theorem w62 : wfM 22956 23579 P62 Q62 = true := by decide +kernel
theorem r63 : run tbl 80 20 l63 ⟨23580, putM P63 t6⟩ (memoK 23708 v63 Q63) = true := by decide +kernel
theorem w63 : wfM 23580 23708 P63 Q63 = true := by decide +kernel
theorem r64 : run tbl 80 19 l64 ⟨24013, putM P64 t6⟩ (memoK 24562 v64 Q64) = true := by decide +kernel
theorem w64 : wfM 24013 24562 P64 Q64 = true := by decide +kernel
theorem r65 : run tbl 80 20 l65 ⟨24563, putM P65 t6⟩ (memoK 24659 v65 Q65) = true := by decide +kernel
theorem w65 : wfM 24563 24659 P65 Q65 = true := by decide +kernel
theorem r66 : run tbl 80 19 l66 ⟨24660, putM P66 t6⟩ (memoK 25209 v66 Q66) = true := by decide +kernel
theorem w66 : wfM 24660 25209 P66 Q66 = true := by decide +kernel
theorem r67 : run tbl 80 20 l67 ⟨25210, putM P67 t6⟩ (memoK 25306 v67 Q67) = true := by decide +kernel
theorem w67 : wfM 25210 25306 P67 Q67 = true := by decide +kernel
theorem r68 : run tbl 80 19 l68 ⟨25307, putM P68 t6⟩ (memoK 25856 v68 Q68) = true := by decide +kernel
theorem w68 : wfM 25307 25856 P68 Q68 = true := by decide +kernel
theorem r69 : run tbl 80 20 l69 ⟨25857, putM P69 t6⟩ (memoK 25953 v69 Q69) = true := by decide +kernel
theorem w69 : wfM 25857 25953 P69 Q69 = true := by decide +kernel
theorem r70 : run tbl 80 19 l70 ⟨25954, putM P70 t6⟩ (memoK 26503 v70 Q70) = true := by decide +kernel
theorem w70 : wfM 25954 26503 P70 Q70 = true := by decide +kernel
theorem r71 : run tbl 80 20 l71 ⟨26504, putM P71 t6⟩ (memoK 26600 v71 Q71) = true := by decide +kernel
theorem w71 : wfM 26504 26600 P71 Q71 = true := by decide +kernel
theorem r72 : run tbl 80 19 l72 ⟨26872, putM P72 t6⟩ (memoK 27429 v72 Q72) = true := by decide +kernel
theorem w72 : wfM 26872 27429 P72 Q72 = true := by decide +kernel
theorem r73 : run tbl 80 20 l73 ⟨27430, putM P73 t6⟩ (memoK 27526 v73 Q73) = true := by decide +kernel
theorem w73 : wfM 27430 27526 P73 Q73 = true := by decide +kernel
theorem r74 : run tbl 80 19 l74 ⟨27527, putM P74 t6⟩ (memoK 28084 v74 Q74) = true := by decide +kernel
theorem w74 : wfM 27527 28084 P74 Q74 = true := by decide +kernel
theorem r75 : run tbl 80 20 l75 ⟨28085, putM P75 t6⟩ (memoK 28181 v75 Q75) = true := by decide +kernel
theorem w75 : wfM 28085 28181 P75 Q75 = true := by decide +kernel
theorem r76 : run tbl 80 19 l76 ⟨28182, putM P76 t6⟩ (memoK 28739 v76 Q76) = true := by decide +kernel
theorem w76 : wfM 28182 28739 P76 Q76 = true := by decide +kernel
theorem r77 : run tbl 80 20 l77 ⟨28740, putM P77 t6⟩ (memoK 28836 v77 Q77) = true := by decide +kernel
theorem w77 : wfM 28740 28836 P77 Q77 = true := by decide +kernel
theorem r78 : run tbl 80 19 l78 ⟨28837, putM P78 t6⟩ (memoK 29394 v78 Q78) = true := by decide +kernel
theorem w78 : wfM 28837 29394 P78 Q78 = true := by decide +kernel
theorem r79 : run tbl 80 20 l79 ⟨29395, putM P79 t6⟩ (memoK 29491 v79 Q79) = true := by decide +kernel
theorem w79 : wfM 29395 29491 P79 Q79 = true := by decide +kernel
theorem r80 : run tbl 80 19 l80 ⟨29704, putM P80 t6⟩ (memoK 30336 v80 Q80) = true := by decide +kernel
theorem w80 : wfM 29704 30336 P80 Q80 = true := by decide +kernel
theorem r81 : run tbl 80 20 l81 ⟨30337, putM P81 t6⟩ (memoK 30510 v81 Q81) = true := by decide +kernel
theorem w81 : wfM 30337 30510 P81 Q81 = true := by decide +kernel
theorem r82 : run tbl 80 19 l82 ⟨30517, putM P82 t6⟩ (memoK 31149 v82 Q82) = true := by decide +kernel
theorem w82 : wfM 30517 31149 P82 Q82 = true := by decide +kernel
theorem r83 : run tbl 80 20 l83 ⟨31150, putM P83 t6⟩ (memoK 31323 v83 Q83) = true := by decide +kernel
theorem w83 : wfM 31150 31323 P83 Q83 = true := by decide +kernel
theorem r84 : run tbl 80 19 l84 ⟨31330, putM P84 t6⟩ (memoK 31962 v84 Q84) = true := by decide +kernel
theorem w84 : wfM 31330 31962 P84 Q84 = true := by decide +kernel
theorem r85 : run tbl 80 20 l85 ⟨31963, putM P85 t6⟩ (memoK 32136 v85 Q85) = true := by decide +kernel
theorem w85 : wfM 31963 32136 P85 Q85 = true := by decide +kernel
theorem r86 : run tbl 80 19 l86 ⟨32143, putM P86 t6⟩ (memoK 32775 v86 Q86) = true := by decide +kernel
theorem w86 : wfM 32143 32775 P86 Q86 = true := by decide +kernel
theorem r87 : run tbl 80 20 l87 ⟨32776, putM P87 t6⟩ (memoK 32949 v87 Q87) = true := by decide +kernel
theorem w87 : wfM 32776 32949 P87 Q87 = true := by decide +kernel
theorem r88 : run tbl 80 19 l88 ⟨33201, putM P88 t6⟩ (memoK 33750 v88 Q88) = true := by decide +kernel
theorem w88 : wfM 33201 33750 P88 Q88 = true := by decide +kernel
theorem r89 : run tbl 80 20 l89 ⟨33751, putM P89 t6⟩ (memoK 33847 v89 Q89) = true := by decide +kernel
theorem w89 : wfM 33751 33847 P89 Q89 = true := by decide +kernel
end Go.Bvm.YtfcknednlkfmpaaGreatDoorMAnswerStatus
