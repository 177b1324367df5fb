/- Calls of the law DocLimits, run apart. Conditions: none. -/
import Derived.Test.YtbabneakocnnoaaGreatDoorMDocLimitsD
import Derived.Test.YtbabneakocnnoaaGreatDoorTE
set_option maxRecDepth 100000
namespace Go.Bvm.YtbabneakocnnoaaGreatDoorMDocLimits
open Go.Bvm.YtbabneakocnnoaaGreatDoorTE
theorem r6 : run tbl 80 170 l6 ⟨8517, putM P6 t6⟩ (memoK 9705 v6 Q6) = true := by decide +kernel
theorem w6 : wfM 8517 9705 P6 Q6 = true := by decide +kernel
theorem r7 : run tbl 80 48 l7 ⟨9708, putM P7 t6⟩ (memoK 10007 v7 Q7) = true := by decide +kernel
theorem w7 : wfM 9708 10007 P7 Q7 = true := by decide +kernel
theorem r8 : run tbl 80 91 l8 ⟨10011, putM P8 t6⟩ (memoK 11198 v8 Q8) = true := by decide +kernel
theorem w8 : wfM 10011 11198 P8 Q8 = true := by decide +kernel
theorem r9 : run tbl 80 45 l9 ⟨11200, putM P9 t6⟩ (memoK 11500 v9 Q9) = true := by decide +kernel
theorem w9 : wfM 11200 11500 P9 Q9 = true := by decide +kernel
theorem r10 : run tbl 80 170 l10 ⟨11503, putM P10 t6⟩ (memoK 12693 v10 Q10) = true := by decide +kernel
theorem w10 : wfM 11503 12693 P10 Q10 = true := by decide +kernel
end Go.Bvm.YtbabneakocnnoaaGreatDoorMDocLimits
