/- Calls of the law DocLimits, run apart. Conditions: none. -/
import Derived.Test.YtbabneakocnnoaaGreatDoorMDocLimitsD
import Derived.Test.YtbabneakocnnoaaGreatDoorMDocLimitsL1
set_option maxRecDepth 100000
namespace Go.Bvm.YtbabneakocnnoaaGreatDoorMDocLimits
open Go.Bvm.YtbabneakocnnoaaGreatDoorTE
theorem r75 : run tbl1 80 7 l75 ⟨27, putM P75 t6⟩ (memoK 60827 v75 Q75) = true := by decide +kernel
theorem w75 : wfM 27 60827 P75 Q75 = true := by decide +kernel
end Go.Bvm.YtbabneakocnnoaaGreatDoorMDocLimits
