/- Calls of the law DocLimits, run apart. Conditions: none. -/
import Derived.Test.YtbabneakocnnoaaGreatDoorMDocLimitsD
import Derived.Test.YtbabneakocnnoaaGreatDoorTE
set_option maxRecDepth 100000
namespace Go.Bvm.YtbabneakocnnoaaGreatDoorMDocLimits
open Go.Bvm.YtbabneakocnnoaaGreatDoorTE
theorem r58 : run tbl 80 91 l58 ⟨47412, putM P58 t6⟩ (memoK 48617 v58 Q58) = true := by decide +kernel
theorem w58 : wfM 47412 48617 P58 Q58 = true := by decide +kernel
theorem r59 : run tbl 80 45 l59 ⟨48619, putM P59 t6⟩ (memoK 48925 v59 Q59) = true := by decide +kernel
theorem w59 : wfM 48619 48925 P59 Q59 = true := by decide +kernel
theorem r60 : run tbl 80 170 l60 ⟨48928, putM P60 t6⟩ (memoK 50133 v60 Q60) = true := by decide +kernel
theorem w60 : wfM 48928 50133 P60 Q60 = true := by decide +kernel
theorem r61 : run tbl 80 48 l61 ⟨50136, putM P61 t6⟩ (memoK 50444 v61 Q61) = true := by decide +kernel
theorem w61 : wfM 50136 50444 P61 Q61 = true := by decide +kernel
theorem r62 : run tbl 80 91 l62 ⟨50448, putM P62 t6⟩ (memoK 51653 v62 Q62) = true := by decide +kernel
theorem w62 : wfM 50448 51653 P62 Q62 = true := by decide +kernel
end Go.Bvm.YtbabneakocnnoaaGreatDoorMDocLimits
