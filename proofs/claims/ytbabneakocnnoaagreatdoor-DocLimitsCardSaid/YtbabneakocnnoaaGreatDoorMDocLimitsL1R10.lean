/- Calls of the law DocLimits, run apart. Conditions: none. -/
import Derived.Test.YtbabneakocnnoaaGreatDoorMDocLimitsD
import Derived.Test.YtbabneakocnnoaaGreatDoorTE
set_option maxRecDepth 100000
namespace Go.Bvm.YtbabneakocnnoaaGreatDoorMDocLimits
open Go.Bvm.YtbabneakocnnoaaGreatDoorTE
theorem r53 : run tbl 80 48 l53 ⟨44070, putM P53 t6⟩ (memoK 44377 v53 Q53) = true := by decide +kernel
theorem w53 : wfM 44070 44377 P53 Q53 = true := by decide +kernel
theorem r54 : run tbl 80 91 l54 ⟨44381, putM P54 t6⟩ (memoK 45586 v54 Q54) = true := by decide +kernel
theorem w54 : wfM 44381 45586 P54 Q54 = true := by decide +kernel
theorem r55 : run tbl 80 45 l55 ⟨45588, putM P55 t6⟩ (memoK 45892 v55 Q55) = true := by decide +kernel
theorem w55 : wfM 45588 45892 P55 Q55 = true := by decide +kernel
theorem r56 : run tbl 80 170 l56 ⟨45895, putM P56 t6⟩ (memoK 47100 v56 Q56) = true := by decide +kernel
theorem w56 : wfM 45895 47100 P56 Q56 = true := by decide +kernel
theorem r57 : run tbl 80 48 l57 ⟨47103, putM P57 t6⟩ (memoK 47408 v57 Q57) = true := by decide +kernel
theorem w57 : wfM 47103 47408 P57 Q57 = true := by decide +kernel
end Go.Bvm.YtbabneakocnnoaaGreatDoorMDocLimits
