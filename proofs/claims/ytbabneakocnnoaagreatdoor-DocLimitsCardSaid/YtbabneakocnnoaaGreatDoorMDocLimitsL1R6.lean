/- Calls of the law DocLimits, run apart. Conditions: none. -/
import Derived.Test.YtbabneakocnnoaaGreatDoorMDocLimitsD
import Derived.Test.YtbabneakocnnoaaGreatDoorTE
set_option maxRecDepth 100000
namespace Go.Bvm.YtbabneakocnnoaaGreatDoorMDocLimits
open Go.Bvm.YtbabneakocnnoaaGreatDoorTE
theorem r33 : run tbl 80 48 l33 ⟨28936, putM P33 t6⟩ (memoK 29238 v33 Q33) = true := by decide +kernel
theorem w33 : wfM 28936 29238 P33 Q33 = true := by decide +kernel
theorem r34 : run tbl 80 91 l34 ⟨29242, putM P34 t6⟩ (memoK 30441 v34 Q34) = true := by decide +kernel
theorem w34 : wfM 29242 30441 P34 Q34 = true := by decide +kernel
theorem r35 : run tbl 80 45 l35 ⟨30443, putM P35 t6⟩ (memoK 30746 v35 Q35) = true := by decide +kernel
theorem w35 : wfM 30443 30746 P35 Q35 = true := by decide +kernel
theorem r36 : run tbl 80 170 l36 ⟨30749, putM P36 t6⟩ (memoK 31951 v36 Q36) = true := by decide +kernel
theorem w36 : wfM 30749 31951 P36 Q36 = true := by decide +kernel
theorem r37 : run tbl 80 48 l37 ⟨31954, putM P37 t6⟩ (memoK 32259 v37 Q37) = true := by decide +kernel
theorem w37 : wfM 31954 32259 P37 Q37 = true := by decide +kernel
end Go.Bvm.YtbabneakocnnoaaGreatDoorMDocLimits
