/- Calls of the law DocLimits, run apart. Conditions: none. -/
import Derived.Test.YtbabneakocnnoaaGreatDoorMDocLimitsD
import Derived.Test.YtbabneakocnnoaaGreatDoorTE
set_option maxRecDepth 100000
namespace Go.Bvm.YtbabneakocnnoaaGreatDoorMDocLimits
open Go.Bvm.YtbabneakocnnoaaGreatDoorTE
theorem r63 : run tbl 80 45 l63 ⟨51655, putM P63 t6⟩ (memoK 51960 v63 Q63) = true := by decide +kernel
theorem w63 : wfM 51655 51960 P63 Q63 = true := by decide +kernel
theorem r64 : run tbl 80 170 l64 ⟨51963, putM P64 t6⟩ (memoK 53168 v64 Q64) = true := by decide +kernel
theorem w64 : wfM 51963 53168 P64 Q64 = true := by decide +kernel
theorem r65 : run tbl 80 48 l65 ⟨53171, putM P65 t6⟩ (memoK 53477 v65 Q65) = true := by decide +kernel
theorem w65 : wfM 53171 53477 P65 Q65 = true := by decide +kernel
theorem r66 : run tbl 80 91 l66 ⟨53481, putM P66 t6⟩ (memoK 54686 v66 Q66) = true := by decide +kernel
theorem w66 : wfM 53481 54686 P66 Q66 = true := by decide +kernel
theorem r67 : run tbl 80 45 l67 ⟨54688, putM P67 t6⟩ (memoK 54995 v67 Q67) = true := by decide +kernel
theorem w67 : wfM 54688 54995 P67 Q67 = true := by decide +kernel
end Go.Bvm.YtbabneakocnnoaaGreatDoorMDocLimits
