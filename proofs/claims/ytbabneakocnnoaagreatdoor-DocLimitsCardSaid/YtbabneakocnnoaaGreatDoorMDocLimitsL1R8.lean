/- Calls of the law DocLimits, run apart. Conditions: none. -/
import Derived.Test.YtbabneakocnnoaaGreatDoorMDocLimitsD
import Derived.Test.YtbabneakocnnoaaGreatDoorTE
set_option maxRecDepth 100000
namespace Go.Bvm.YtbabneakocnnoaaGreatDoorMDocLimits
open Go.Bvm.YtbabneakocnnoaaGreatDoorTE
theorem r43 : run tbl 80 45 l43 ⟨36493, putM P43 t6⟩ (memoK 36797 v43 Q43) = true := by decide +kernel
theorem w43 : wfM 36493 36797 P43 Q43 = true := by decide +kernel
theorem r44 : run tbl 80 170 l44 ⟨36800, putM P44 t6⟩ (memoK 38005 v44 Q44) = true := by decide +kernel
theorem w44 : wfM 36800 38005 P44 Q44 = true := by decide +kernel
theorem r45 : run tbl 80 48 l45 ⟨38008, putM P45 t6⟩ (memoK 38314 v45 Q45) = true := by decide +kernel
theorem w45 : wfM 38008 38314 P45 Q45 = true := by decide +kernel
theorem r46 : run tbl 80 91 l46 ⟨38318, putM P46 t6⟩ (memoK 39523 v46 Q46) = true := by decide +kernel
theorem w46 : wfM 38318 39523 P46 Q46 = true := by decide +kernel
theorem r47 : run tbl 80 45 l47 ⟨39525, putM P47 t6⟩ (memoK 39828 v47 Q47) = true := by decide +kernel
theorem w47 : wfM 39525 39828 P47 Q47 = true := by decide +kernel
end Go.Bvm.YtbabneakocnnoaaGreatDoorMDocLimits
