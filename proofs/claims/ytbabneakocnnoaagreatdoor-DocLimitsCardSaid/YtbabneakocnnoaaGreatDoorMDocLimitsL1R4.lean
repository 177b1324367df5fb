/- Calls of the law DocLimits, run apart. Conditions: none. -/
import Derived.Test.YtbabneakocnnoaaGreatDoorMDocLimitsD
import Derived.Test.YtbabneakocnnoaaGreatDoorTE
set_option maxRecDepth 100000
namespace Go.Bvm.YtbabneakocnnoaaGreatDoorMDocLimits
open Go.Bvm.YtbabneakocnnoaaGreatDoorTE
theorem r23 : run tbl 80 45 l23 ⟨21404, putM P23 t6⟩ (memoK 21704 v23 Q23) = true := by decide +kernel
theorem w23 : wfM 21404 21704 P23 Q23 = true := by decide +kernel
theorem r24 : run tbl 80 170 l24 ⟨21707, putM P24 t6⟩ (memoK 22903 v24 Q24) = true := by decide +kernel
theorem w24 : wfM 21707 22903 P24 Q24 = true := by decide +kernel
theorem r25 : run tbl 80 48 l25 ⟨22906, putM P25 t6⟩ (memoK 23207 v25 Q25) = true := by decide +kernel
theorem w25 : wfM 22906 23207 P25 Q25 = true := by decide +kernel
theorem r26 : run tbl 80 91 l26 ⟨23211, putM P26 t6⟩ (memoK 24406 v26 Q26) = true := by decide +kernel
theorem w26 : wfM 23211 24406 P26 Q26 = true := by decide +kernel
theorem r27 : run tbl 80 45 l27 ⟨24408, putM P27 t6⟩ (memoK 24710 v27 Q27) = true := by decide +kernel
theorem w27 : wfM 24408 24710 P27 Q27 = true := by decide +kernel
end Go.Bvm.YtbabneakocnnoaaGreatDoorMDocLimits
