/- Calls of the law DocLimits, run apart. Conditions: none. -/
import Derived.Test.YtbabneakocnnoaaGreatDoorMDocLimitsD
import Derived.Test.YtbabneakocnnoaaGreatDoorTE
set_option maxRecDepth 100000
namespace Go.Bvm.YtbabneakocnnoaaGreatDoorMDocLimits
open Go.Bvm.YtbabneakocnnoaaGreatDoorTE
theorem r73 : run tbl 80 48 l73 ⟨59243, putM P73 t6⟩ (memoK 59550 v73 Q73) = true := by decide +kernel
theorem w73 : wfM 59243 59550 P73 Q73 = true := by decide +kernel
theorem r74 : run tbl 80 91 l74 ⟨59554, putM P74 t6⟩ (memoK 60759 v74 Q74) = true := by decide +kernel
theorem w74 : wfM 59554 60759 P74 Q74 = true := by decide +kernel
end Go.Bvm.YtbabneakocnnoaaGreatDoorMDocLimits
