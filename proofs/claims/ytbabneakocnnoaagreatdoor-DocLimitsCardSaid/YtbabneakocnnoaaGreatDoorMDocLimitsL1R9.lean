/- Calls of the law DocLimits, run apart. Conditions: none. -/
import Derived.Test.YtbabneakocnnoaaGreatDoorMDocLimitsD
import Derived.Test.YtbabneakocnnoaaGreatDoorTE
set_option maxRecDepth 100000
namespace Go.Bvm.YtbabneakocnnoaaGreatDoorMDocLimits
open Go.Bvm.YtbabneakocnnoaaGreatDoorTE
theorem r48 : run tbl 80 170 l48 ⟨39831, putM P48 t6⟩ (memoK 41036 v48 Q48) = true := by decide +kernel
theorem w48 : wfM 39831 41036 P48 Q48 = true := by decide +kernel
theorem r49 : run tbl 80 48 l49 ⟨41039, putM P49 t6⟩ (memoK 41343 v49 Q49) = true := by decide +kernel
theorem w49 : wfM 41039 41343 P49 Q49 = true := by decide +kernel
theorem r50 : run tbl 80 91 l50 ⟨41347, putM P50 t6⟩ (memoK 42552 v50 Q50) = true := by decide +kernel
theorem w50 : wfM 41347 42552 P50 Q50 = true := by decide +kernel
theorem r51 : run tbl 80 45 l51 ⟨42554, putM P51 t6⟩ (memoK 42859 v51 Q51) = true := by decide +kernel
theorem w51 : wfM 42554 42859 P51 Q51 = true := by decide +kernel
theorem r52 : run tbl 80 170 l52 ⟨42862, putM P52 t6⟩ (memoK 44067 v52 Q52) = true := by decide +kernel
theorem w52 : wfM 42862 44067 P52 Q52 = true := by decide +kernel
end Go.Bvm.YtbabneakocnnoaaGreatDoorMDocLimits
