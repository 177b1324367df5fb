/- Calls of the law VarsMany, run apart. Conditions: none. -/
import Derived.Test.YtjplhnnijolpnaaGreatDoorMVarsManyD
import Derived.Test.YtjplhnnijolpnaaGreatDoorTV
set_option maxRecDepth 100000
namespace Go.Bvm.YtjplhnnijolpnaaGreatDoorMVarsMany
open Go.Bvm.YtjplhnnijolpnaaGreatDoorTV
theorem r106 : run tbl 80 19 l106 ⟨13193, putM P106 t6⟩ (memoK 13329 v106 Q106) = true := by decide +kernel
theorem w106 : wfM 13193 13329 P106 Q106 = true := by decide +kernel
theorem r107 : run tbl 80 19 l107 ⟨13351, putM P107 t6⟩ (memoK 13497 v107 Q107) = true := by decide +kernel
theorem w107 : wfM 13351 13497 P107 Q107 = true := by decide +kernel
theorem r108 : run tbl 80 19 l108 ⟨13524, putM P108 t6⟩ (memoK 13660 v108 Q108) = true := by decide +kernel
theorem w108 : wfM 13524 13660 P108 Q108 = true := by decide +kernel
theorem r109 : run tbl 80 19 l109 ⟨13682, putM P109 t6⟩ (memoK 13806 v109 Q109) = true := by decide +kernel
theorem w109 : wfM 13682 13806 P109 Q109 = true := by decide +kernel
theorem r110 : run tbl 80 19 l110 ⟨13823, putM P110 t6⟩ (memoK 13951 v110 Q110) = true := by decide +kernel
theorem w110 : wfM 13823 13951 P110 Q110 = true := by decide +kernel
theorem r111 : run tbl 80 19 l111 ⟨13968, putM P111 t6⟩ (memoK 14104 v111 Q111) = true := by decide +kernel
theorem w111 : wfM 13968 14104 P111 Q111 = true := by decide +kernel
theorem r112 : run tbl 80 19 l112 ⟨14196, putM P112 t6⟩ (memoK 14328 v112 Q112) = true := by decide +kernel
theorem w112 : wfM 14196 14328 P112 Q112 = true := by decide +kernel
theorem r113 : run tbl 80 19 l113 ⟨14345, putM P113 t6⟩ (memoK 14481 v113 Q113) = true := by decide +kernel
theorem w113 : wfM 14345 14481 P113 Q113 = true := by decide +kernel
theorem r114 : run tbl 80 19 l114 ⟨14498, putM P114 t6⟩ (memoK 14638 v114 Q114) = true := by decide +kernel
theorem w114 : wfM 14498 14638 P114 Q114 = true := by decide +kernel
theorem r115 : run tbl 80 19 l115 ⟨14655, putM P115 t6⟩ (memoK 14791 v115 Q115) = true := by decide +kernel
theorem w115 : wfM 14655 14791 P115 Q115 = true := by decide +kernel
theorem r116 : run tbl 80 19 l116 ⟨14808, putM P116 t6⟩ (memoK 14944 v116 Q116) = true := by decide +kernel
theorem w116 : wfM 14808 14944 P116 Q116 = true := by decide +kernel
theorem r117 : run tbl 80 19 l117 ⟨14961, putM P117 t6⟩ (memoK 15101 v117 Q117) = true := by decide +kernel
theorem w117 : wfM 14961 15101 P117 Q117 = true := by decide +kernel
theorem r118 : run tbl 80 19 l118 ⟨15118, putM P118 t6⟩ (memoK 15254 v118 Q118) = true := by decide +kernel
theorem w118 : wfM 15118 15254 P118 Q118 = true := by decide +kernel
theorem r119 : run tbl 80 19 l119 ⟨15271, putM P119 t6⟩ (memoK 15407 v119 Q119) = true := by decide +kernel
theorem w119 : wfM 15271 15407 P119 Q119 = true := by decide +kernel
theorem r120 : run tbl 80 19 l120 ⟨15424, putM P120 t6⟩ (memoK 15564 v120 Q120) = true := by decide +kernel
theorem w120 : wfM 15424 15564 P120 Q120 = true := by decide +kernel
theorem r121 : run tbl 80 19 l121 ⟨15581, putM P121 t6⟩ (memoK 15717 v121 Q121) = true := by decide +kernel
theorem w121 : wfM 15581 15717 P121 Q121 = true := by decide +kernel
theorem r122 : run tbl 80 19 l122 ⟨15734, putM P122 t6⟩ (memoK 15870 v122 Q122) = true := by decide +kernel
theorem w122 : wfM 15734 15870 P122 Q122 = true := by decide +kernel
theorem r123 : run tbl 80 19 l123 ⟨15887, putM P123 t6⟩ (memoK 16027 v123 Q123) = true := by decide +kernel
theorem w123 : wfM 15887 16027 P123 Q123 = true := by decide +kernel
theorem r124 : run tbl 80 19 l124 ⟨16044, putM P124 t6⟩ (memoK 16180 v124 Q124) = true := by decide +kernel
theorem w124 : wfM 16044 16180 P124 Q124 = true := by decide +kernel
theorem r125 : run tbl 80 19 l125 ⟨16197, putM P125 t6⟩ (memoK 16333 v125 Q125) = true := by decide +kernel
theorem w125 : wfM 16197 16333 P125 Q125 = true := by decide +kernel
theorem r126 : run tbl 80 19 l126 ⟨16350, putM P126 t6⟩ (memoK 16490 v126 Q126) = true := by decide +kernel
theorem w126 : wfM 16350 16490 P126 Q126 = true := by decide +kernel
theorem r127 : run tbl 80 19 l127 ⟨16507, putM P127 t6⟩ (memoK 16643 v127 Q127) = true := by decide +kernel
theorem w127 : wfM 16507 16643 P127 Q127 = true := by decide +kernel
theorem r128 : run tbl 80 19 l128 ⟨16730, putM P128 t6⟩ (memoK 16864 v128 Q128) = true := by decide +kernel
theorem w128 : wfM 16730 16864 P128 Q128 = true := by decide +kernel
theorem r129 : run tbl 80 19 l129 ⟨16882, putM P129 t6⟩ (memoK 17020 v129 Q129) = true := by decide +kernel
theorem w129 : wfM 16882 17020 P129 Q129 = true := by decide +kernel
theorem r130 : run tbl 80 19 l130 ⟨17038, putM P130 t6⟩ (memoK 17180 v130 Q130) = true := by decide +kernel
theorem w130 : wfM 17038 17180 P130 Q130 = true := by decide +kernel
theorem r131 : run tbl 80 19 l131 ⟨17198, putM P131 t6⟩ (memoK 17336 v131 Q131) = true := by decide +kernel
theorem w131 : wfM 17198 17336 P131 Q131 = true := by decide +kernel
theorem r132 : run tbl 80 19 l132 ⟨17354, putM P132 t6⟩ (memoK 17492 v132 Q132) = true := by decide +kernel
theorem w132 : wfM 17354 17492 P132 Q132 = true := by decide +kernel
theorem r133 : run tbl 80 19 l133 ⟨17510, putM P133 t6⟩ (memoK 17652 v133 Q133) = true := by decide +kernel
theorem w133 : wfM 17510 17652 P133 Q133 = true := by decide +kernel
theorem r134 : run tbl 80 19 l134 ⟨17670, putM P134 t6⟩ (memoK 17808 v134 Q134) = true := by decide +kernel
theorem w134 : wfM 17670 17808 P134 Q134 = true := by decide +kernel
theorem r135 : run tbl 80 19 l135 ⟨17826, putM P135 t6⟩ (memoK 17964 v135 Q135) = true := by decide +kernel
theorem w135 : wfM 17826 17964 P135 Q135 = true := by decide +kernel
theorem r136 : run tbl 80 19 l136 ⟨17982, putM P136 t6⟩ (memoK 18124 v136 Q136) = true := by decide +kernel
theorem w136 : wfM 17982 18124 P136 Q136 = true := by decide +kernel
theorem r137 : run tbl 80 19 l137 ⟨18142, putM P137 t6⟩ (memoK 18280 v137 Q137) = true := by decide +kernel
theorem w137 : wfM 18142 18280 P137 Q137 = true := by decide +kernel
theorem r138 : run tbl 80 19 l138 ⟨18298, putM P138 t6⟩ (memoK 18436 v138 Q138) = true := by decide +kernel
theorem w138 : wfM 18298 18436 P138 Q138 = true := by decide +kernel
theorem r139 : run tbl 80 19 l139 ⟨18454, putM P139 t6⟩ (memoK 18596 v139 Q139) = true := by decide +kernel
theorem w139 : wfM 18454 18596 P139 Q139 = true := by decide +kernel
theorem r140 : run tbl 80 19 l140 ⟨18614, putM P140 t6⟩ (memoK 18752 v140 Q140) = true := by decide +kernel
theorem w140 : wfM 18614 18752 P140 Q140 = true := by decide +kernel
theorem r141 : run tbl 80 19 l141 ⟨18770, putM P141 t6⟩ (memoK 18908 v141 Q141) = true := by decide +kernel
theorem w141 : wfM 18770 18908 P141 Q141 = true := by decide +kernel
theorem r142 : run tbl 80 19 l142 ⟨18926, putM P142 t6⟩ (memoK 19068 v142 Q142) = true := by decide +kernel
theorem w142 : wfM 18926 19068 P142 Q142 = true := by decide +kernel
theorem r143 : run tbl 80 19 l143 ⟨19086, putM P143 t6⟩ (memoK 19224 v143 Q143) = true := by decide +kernel
theorem w143 : wfM 19086 19224 P143 Q143 = true := by decide +kernel
theorem r144 : run tbl 80 19 l144 ⟨19312, putM P144 t6⟩ (memoK 19463 v144 Q144) = true := by decide +kernel
theorem w144 : wfM 19312 19463 P144 Q144 = true := by decide +kernel
end Go.Bvm.YtjplhnnijolpnaaGreatDoorMVarsMany
