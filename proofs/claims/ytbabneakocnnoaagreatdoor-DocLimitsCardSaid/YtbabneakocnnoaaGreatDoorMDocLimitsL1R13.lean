/- Calls of the law DocLimits, run apart. Conditions: none. -/
import Derived.Test.YtbabneakocnnoaaGreatDoorMDocLimitsD
import Derived.Test.YtbabneakocnnoaaGreatDoorTE
set_option maxRecDepth 100000
namespace Go.Bvm.YtbabneakocnnoaaGreatDoorMDocLimits
open Go.Bvm.YtbabneakocnnoaaGreatDoorTE
theorem r68 : run tbl 80 170 l68 ⟨54998, putM P68 t6⟩ (memoK 56203 v68 Q68) = true := by decide +kernel
theorem w68 : wfM 54998 56203 P68 Q68 = true := by decide +kernel
theorem r69 : run tbl 80 48 l69 ⟨56206, putM P69 t6⟩ (memoK 56515 v69 Q69) = true := by decide +kernel
theorem w69 : wfM 56206 56515 P69 Q69 = true := by decide +kernel
theorem r70 : run tbl 80 91 l70 ⟨56519, putM P70 t6⟩ (memoK 57724 v70 Q70) = true := by decide +kernel
theorem w70 : wfM 56519 57724 P70 Q70 = true := by decide +kernel
theorem r71 : run tbl 80 45 l71 ⟨57726, putM P71 t6⟩ (memoK 58032 v71 Q71) = true := by decide +kernel
theorem w71 : wfM 57726 58032 P71 Q71 = true := by decide +kernel
theorem r72 : run tbl 80 170 l72 ⟨58035, putM P72 t6⟩ (memoK 59240 v72 Q72) = true := by decide +kernel
theorem w72 : wfM 58035 59240 P72 Q72 = true := by decide +kernel
end Go.Bvm.YtbabneakocnnoaaGreatDoorMDocLimits
