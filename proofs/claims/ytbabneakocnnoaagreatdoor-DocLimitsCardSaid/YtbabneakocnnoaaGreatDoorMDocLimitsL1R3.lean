/- Calls of the law DocLimits, run apart. Conditions: none. -/
import Derived.Test.YtbabneakocnnoaaGreatDoorMDocLimitsD
import Derived.Test.YtbabneakocnnoaaGreatDoorTE
set_option maxRecDepth 100000
namespace Go.Bvm.YtbabneakocnnoaaGreatDoorMDocLimits
open Go.Bvm.YtbabneakocnnoaaGreatDoorTE
theorem r17 : run tbl 80 91 l17 ⟨16600, putM P17 t6⟩ (memoK 17791 v17 Q17) = true := by decide +kernel
theorem w17 : wfM 16600 17791 P17 Q17 = true := by decide +kernel
theorem r18 : run tbl 80 45 l18 ⟨17793, putM P18 t6⟩ (memoK 18094 v18 Q18) = true := by decide +kernel
theorem w18 : wfM 17793 18094 P18 Q18 = true := by decide +kernel
theorem r19 : run tbl 80 170 l19 ⟨18097, putM P19 t6⟩ (memoK 19291 v19 Q19) = true := by decide +kernel
theorem w19 : wfM 18097 19291 P19 Q19 = true := by decide +kernel
theorem r20 : run tbl 80 48 l20 ⟨19297, putM P20 t6⟩ (memoK 19600 v20 Q20) = true := by decide +kernel
theorem w20 : wfM 19297 19600 P20 Q20 = true := by decide +kernel
theorem r21 : run tbl 80 91 l21 ⟨19604, putM P21 t6⟩ (memoK 20798 v21 Q21) = true := by decide +kernel
theorem w21 : wfM 19604 20798 P21 Q21 = true := by decide +kernel
theorem r22 : run tbl 80 21 l22 ⟨20804, putM P22 t6⟩ (memoK 21404 v22 Q22) = true := by decide +kernel
theorem w22 : wfM 20804 21404 P22 Q22 = true := by decide +kernel
end Go.Bvm.YtbabneakocnnoaaGreatDoorMDocLimits
