/- Calls of the law AnswerStatus, run apart. Conditions: none. -/
import Derived.Test.YtfcknednlkfmpaaGreatDoorMAnswerStatusD
import Derived.Test.YtfcknednlkfmpaaGreatDoorTS
set_option maxRecDepth 100000
namespace Go.Bvm.YtfcknednlkfmpaaGreatDoorMAnswerStatus
open Go.Bvm.YtfcknednlkfmpaaGreatDoorTS
theorem r90 : run tbl 80 19 l90 ⟨33848, putM P90 t6⟩ (memoK 34397 v90 Q90) = true := by decide +kernel
theorem w90 : wfM 33848 34397 P90 Q90 = true := by decide +kernel
theorem r91 : run tbl 80 20 l91 ⟨34398, putM P91 t6⟩ (memoK 34494 v91 Q91) = true := by decide +kernel
theorem w91 : wfM 34398 34494 P91 Q91 = true := by decide +kernel
theorem r92 : run tbl 80 19 l92 ⟨34495, putM P92 t6⟩ (memoK 35044 v92 Q92) = true := by decide +kernel
theorem w92 : wfM 34495 35044 P92 Q92 = true := by decide +kernel
theorem r93 : run tbl 80 20 l93 ⟨35045, putM P93 t6⟩ (memoK 35141 v93 Q93) = true := by decide +kernel
theorem w93 : wfM 35045 35141 P93 Q93 = true := by decide +kernel
theorem r94 : run tbl 80 19 l94 ⟨35142, putM P94 t6⟩ (memoK 35691 v94 Q94) = true := by decide +kernel
theorem w94 : wfM 35142 35691 P94 Q94 = true := by decide +kernel
theorem r95 : run tbl 80 20 l95 ⟨35692, putM P95 t6⟩ (memoK 35788 v95 Q95) = true := by decide +kernel
theorem w95 : wfM 35692 35788 P95 Q95 = true := by decide +kernel
theorem r96 : run tbl 80 19 l96 ⟨36105, putM P96 t6⟩ (memoK 36751 v96 Q96) = true := by decide +kernel
theorem w96 : wfM 36105 36751 P96 Q96 = true := by decide +kernel
theorem r97 : run tbl 80 20 l97 ⟨36752, putM P97 t6⟩ (memoK 36969 v97 Q97) = true := by decide +kernel
theorem w97 : wfM 36752 36969 P97 Q97 = true := by decide +kernel
theorem r98 : run tbl 80 19 l98 ⟨36978, putM P98 t6⟩ (memoK 37624 v98 Q98) = true := by decide +kernel
theorem w98 : wfM 36978 37624 P98 Q98 = true := by decide +kernel
theorem r99 : run tbl 80 20 l99 ⟨37625, putM P99 t6⟩ (memoK 37842 v99 Q99) = true := by decide +kernel
theorem w99 : wfM 37625 37842 P99 Q99 = true := by decide +kernel
theorem r100 : run tbl 80 19 l100 ⟨37851, putM P100 t6⟩ (memoK 38497 v100 Q100) = true := by decide +kernel
theorem w100 : wfM 37851 38497 P100 Q100 = true := by decide +kernel
theorem r101 : run tbl 80 20 l101 ⟨38498, putM P101 t6⟩ (memoK 38715 v101 Q101) = true := by decide +kernel
theorem w101 : wfM 38498 38715 P101 Q101 = true := by decide +kernel
theorem r102 : run tbl 80 19 l102 ⟨38724, putM P102 t6⟩ (memoK 39370 v102 Q102) = true := by decide +kernel
theorem w102 : wfM 38724 39370 P102 Q102 = true := by decide +kernel
theorem r103 : run tbl 80 20 l103 ⟨39371, putM P103 t6⟩ (memoK 39588 v103 Q103) = true := by decide +kernel
theorem w103 : wfM 39371 39588 P103 Q103 = true := by decide +kernel
theorem r104 : run tbl 80 19 l104 ⟨39868, putM P104 t6⟩ (memoK 40437 v104 Q104) = true := by decide +kernel
theorem w104 : wfM 39868 40437 P104 Q104 = true := by decide +kernel
theorem r105 : run tbl 80 20 l105 ⟨40438, putM P105 t6⟩ (memoK 40555 v105 Q105) = true := by decide +kernel
theorem w105 : wfM 40438 40555 P105 Q105 = true := by decide +kernel
theorem r106 : run tbl 80 19 l106 ⟨40556, putM P106 t6⟩ (memoK 41125 v106 Q106) = true := by decide +kernel
theorem w106 : wfM 40556 41125 P106 Q106 = true := by decide +kernel
theorem r107 : run tbl 80 20 l107 ⟨41126, putM P107 t6⟩ (memoK 41243 v107 Q107) = true := by decide +kernel
theorem w107 : wfM 41126 41243 P107 Q107 = true := by decide +kernel
theorem r108 : run tbl 80 19 l108 ⟨41244, putM P108 t6⟩ (memoK 41813 v108 Q108) = true := by decide +kernel
theorem w108 : wfM 41244 41813 P108 Q108 = true := by decide +kernel
theorem r109 : run tbl 80 20 l109 ⟨41814, putM P109 t6⟩ (memoK 41931 v109 Q109) = true := by decide +kernel
theorem w109 : wfM 41814 41931 P109 Q109 = true := by decide +kernel
theorem r110 : run tbl 80 19 l110 ⟨41932, putM P110 t6⟩ (memoK 42501 v110 Q110) = true := by decide +kernel
theorem w110 : wfM 41932 42501 P110 Q110 = true := by decide +kernel
theorem r111 : run tbl 80 20 l111 ⟨42502, putM P111 t6⟩ (memoK 42619 v111 Q111) = true := by decide +kernel
theorem w111 : wfM 42502 42619 P111 Q111 = true := by decide +kernel
theorem r112 : run tbl 80 19 l112 ⟨42832, putM P112 t6⟩ (memoK 43393 v112 Q112) = true := by decide +kernel
theorem w112 : wfM 42832 43393 P112 Q112 = true := by decide +kernel
theorem r113 : run tbl 80 20 l113 ⟨43394, putM P113 t6⟩ (memoK 43511 v113 Q113) = true := by decide +kernel
theorem w113 : wfM 43394 43511 P113 Q113 = true := by decide +kernel
theorem r114 : run tbl 80 19 l114 ⟨43512, putM P114 t6⟩ (memoK 44073 v114 Q114) = true := by decide +kernel
theorem w114 : wfM 43512 44073 P114 Q114 = true := by decide +kernel
theorem r115 : run tbl 80 20 l115 ⟨44074, putM P115 t6⟩ (memoK 44191 v115 Q115) = true := by decide +kernel
theorem w115 : wfM 44074 44191 P115 Q115 = true := by decide +kernel
theorem r116 : run tbl 80 19 l116 ⟨44192, putM P116 t6⟩ (memoK 44753 v116 Q116) = true := by decide +kernel
theorem w116 : wfM 44192 44753 P116 Q116 = true := by decide +kernel
theorem r117 : run tbl 80 20 l117 ⟨44754, putM P117 t6⟩ (memoK 44871 v117 Q117) = true := by decide +kernel
theorem w117 : wfM 44754 44871 P117 Q117 = true := by decide +kernel
end Go.Bvm.YtfcknednlkfmpaaGreatDoorMAnswerStatus
