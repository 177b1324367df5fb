/- Calls of the law DocLimits, run apart. Conditions: none. -/
import Derived.Test.YtbabneakocnnoaaGreatDoorMDocLimitsD
import Derived.Test.YtbabneakocnnoaaGreatDoorTE
set_option maxRecDepth 100000
namespace Go.Bvm.YtbabneakocnnoaaGreatDoorMDocLimits
open Go.Bvm.YtbabneakocnnoaaGreatDoorTE
theorem r38 : run tbl 80 91 l38 ⟨32263, putM P38 t6⟩ (memoK 33465 v38 Q38) = true := by decide +kernel
theorem w38 : wfM 32263 33465 P38 Q38 = true := by decide +kernel
theorem r39 : run tbl 80 45 l39 ⟨33469, putM P39 t6⟩ (memoK 33771 v39 Q39) = true := by decide +kernel
theorem w39 : wfM 33469 33771 P39 Q39 = true := by decide +kernel
theorem r40 : run tbl 80 170 l40 ⟨33774, putM P40 t6⟩ (memoK 34978 v40 Q40) = true := by decide +kernel
theorem w40 : wfM 33774 34978 P40 Q40 = true := by decide +kernel
theorem r41 : run tbl 80 48 l41 ⟨34981, putM P41 t6⟩ (memoK 35284 v41 Q41) = true := by decide +kernel
theorem w41 : wfM 34981 35284 P41 Q41 = true := by decide +kernel
theorem r42 : run tbl 80 91 l42 ⟨35288, putM P42 t6⟩ (memoK 36491 v42 Q42) = true := by decide +kernel
theorem w42 : wfM 35288 36491 P42 Q42 = true := by decide +kernel
end Go.Bvm.YtbabneakocnnoaaGreatDoorMDocLimits
