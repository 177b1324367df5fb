/- Calls of the law AnswerStatus, run apart. Conditions: none. -/
import Derived.Test.YtfcknednlkfmpaaGreatDoorMAnswerStatusD
import Derived.Test.YtfcknednlkfmpaaGreatDoorTS
set_option maxRecDepth 100000
namespace Go.Bvm.YtfcknednlkfmpaaGreatDoorMAnswerStatus
open Go.Bvm.YtfcknednlkfmpaaGreatDoorTS
theorem r118 : run tbl 80 19 l118 ⟨44872, putM P118 t6⟩ (memoK 45433 v118 Q118) = true := by decide +kernel
theorem w118 : wfM 44872 45433 P118 Q118 = true := by decide +kernel
theorem r119 : run tbl 80 20 l119 ⟨45434, putM P119 t6⟩ (memoK 45551 v119 Q119) = true := by decide +kernel
theorem w119 : wfM 45434 45551 P119 Q119 = true := by decide +kernel
theorem r120 : run tbl 80 19 l120 ⟨45797, putM P120 t6⟩ (memoK 46443 v120 Q120) = true := by decide +kernel
theorem w120 : wfM 45797 46443 P120 Q120 = true := by decide +kernel
theorem r121 : run tbl 80 20 l121 ⟨46444, putM P121 t6⟩ (memoK 46661 v121 Q121) = true := by decide +kernel
theorem w121 : wfM 46444 46661 P121 Q121 = true := by decide +kernel
theorem r122 : run tbl 80 19 l122 ⟨46670, putM P122 t6⟩ (memoK 47316 v122 Q122) = true := by decide +kernel
theorem w122 : wfM 46670 47316 P122 Q122 = true := by decide +kernel
theorem r123 : run tbl 80 20 l123 ⟨47317, putM P123 t6⟩ (memoK 47534 v123 Q123) = true := by decide +kernel
theorem w123 : wfM 47317 47534 P123 Q123 = true := by decide +kernel
theorem r124 : run tbl 80 19 l124 ⟨47543, putM P124 t6⟩ (memoK 48189 v124 Q124) = true := by decide +kernel
theorem w124 : wfM 47543 48189 P124 Q124 = true := by decide +kernel
theorem r125 : run tbl 80 20 l125 ⟨48190, putM P125 t6⟩ (memoK 48407 v125 Q125) = true := by decide +kernel
theorem w125 : wfM 48190 48407 P125 Q125 = true := by decide +kernel
theorem r126 : run tbl 80 19 l126 ⟨48416, putM P126 t6⟩ (memoK 49062 v126 Q126) = true := by decide +kernel
theorem w126 : wfM 48416 49062 P126 Q126 = true := by decide +kernel
theorem r127 : run tbl 80 20 l127 ⟨49063, putM P127 t6⟩ (memoK 49280 v127 Q127) = true := by decide +kernel
theorem w127 : wfM 49063 49280 P127 Q127 = true := by decide +kernel
theorem r128 : run tbl 80 19 l128 ⟨49504, putM P128 t6⟩ (memoK 49620 v128 Q128) = true := by decide +kernel
theorem w128 : wfM 49504 49620 P128 Q128 = true := by decide +kernel
theorem r129 : run tbl 80 19 l129 ⟨49637, putM P129 t6⟩ (memoK 49753 v129 Q129) = true := by decide +kernel
theorem w129 : wfM 49637 49753 P129 Q129 = true := by decide +kernel
theorem r130 : run tbl 80 19 l130 ⟨49770, putM P130 t6⟩ (memoK 49886 v130 Q130) = true := by decide +kernel
theorem w130 : wfM 49770 49886 P130 Q130 = true := by decide +kernel
theorem r131 : run tbl 80 19 l131 ⟨49903, putM P131 t6⟩ (memoK 50019 v131 Q131) = true := by decide +kernel
theorem w131 : wfM 49903 50019 P131 Q131 = true := by decide +kernel
theorem r132 : run tbl 80 19 l132 ⟨50307, putM P132 t6⟩ (memoK 50431 v132 Q132) = true := by decide +kernel
theorem w132 : wfM 50307 50431 P132 Q132 = true := by decide +kernel
theorem r133 : run tbl 80 19 l133 ⟨50448, putM P133 t6⟩ (memoK 50572 v133 Q133) = true := by decide +kernel
theorem w133 : wfM 50448 50572 P133 Q133 = true := by decide +kernel
theorem r134 : run tbl 80 19 l134 ⟨50589, putM P134 t6⟩ (memoK 50713 v134 Q134) = true := by decide +kernel
theorem w134 : wfM 50589 50713 P134 Q134 = true := by decide +kernel
theorem r135 : run tbl 80 19 l135 ⟨50730, putM P135 t6⟩ (memoK 50854 v135 Q135) = true := by decide +kernel
theorem w135 : wfM 50730 50854 P135 Q135 = true := by decide +kernel
theorem r136 : run tbl 80 19 l136 ⟨51083, putM P136 t6⟩ (memoK 51199 v136 Q136) = true := by decide +kernel
theorem w136 : wfM 51083 51199 P136 Q136 = true := by decide +kernel
theorem r137 : run tbl 80 19 l137 ⟨51216, putM P137 t6⟩ (memoK 51332 v137 Q137) = true := by decide +kernel
theorem w137 : wfM 51216 51332 P137 Q137 = true := by decide +kernel
theorem r138 : run tbl 80 19 l138 ⟨51349, putM P138 t6⟩ (memoK 51465 v138 Q138) = true := by decide +kernel
theorem w138 : wfM 51349 51465 P138 Q138 = true := by decide +kernel
theorem r139 : run tbl 80 19 l139 ⟨51482, putM P139 t6⟩ (memoK 51598 v139 Q139) = true := by decide +kernel
theorem w139 : wfM 51482 51598 P139 Q139 = true := by decide +kernel
theorem r140 : run tbl 80 19 l140 ⟨51860, putM P140 t6⟩ (memoK 51976 v140 Q140) = true := by decide +kernel
theorem w140 : wfM 51860 51976 P140 Q140 = true := by decide +kernel
theorem r141 : run tbl 80 19 l141 ⟨51993, putM P141 t6⟩ (memoK 52109 v141 Q141) = true := by decide +kernel
theorem w141 : wfM 51993 52109 P141 Q141 = true := by decide +kernel
theorem r142 : run tbl 80 19 l142 ⟨52126, putM P142 t6⟩ (memoK 52242 v142 Q142) = true := by decide +kernel
theorem w142 : wfM 52126 52242 P142 Q142 = true := by decide +kernel
theorem r143 : run tbl 80 19 l143 ⟨52259, putM P143 t6⟩ (memoK 52375 v143 Q143) = true := by decide +kernel
theorem w143 : wfM 52259 52375 P143 Q143 = true := by decide +kernel
end Go.Bvm.YtfcknednlkfmpaaGreatDoorMAnswerStatus
