/- Calls of the law DocLimits, run apart. Conditions: none. -/
import Derived.Test.YtbabneakocnnoaaGreatDoorMDocLimitsD
import Derived.Test.YtbabneakocnnoaaGreatDoorTE
set_option maxRecDepth 100000
namespace Go.Bvm.YtbabneakocnnoaaGreatDoorMDocLimits
open Go.Bvm.YtbabneakocnnoaaGreatDoorTE
theorem r28 : run tbl 80 170 l28 ⟨24713, putM P28 t6⟩ (memoK 25911 v28 Q28) = true := by decide +kernel
theorem w28 : wfM 24713 25911 P28 Q28 = true := by decide +kernel
theorem r29 : run tbl 80 48 l29 ⟨25917, putM P29 t6⟩ (memoK 26221 v29 Q29) = true := by decide +kernel
theorem w29 : wfM 25917 26221 P29 Q29 = true := by decide +kernel
theorem r30 : run tbl 80 91 l30 ⟨26225, putM P30 t6⟩ (memoK 27423 v30 Q30) = true := by decide +kernel
theorem w30 : wfM 26225 27423 P30 Q30 = true := by decide +kernel
theorem r31 : run tbl 80 45 l31 ⟨27429, putM P31 t6⟩ (memoK 27730 v31 Q31) = true := by decide +kernel
theorem w31 : wfM 27429 27730 P31 Q31 = true := by decide +kernel
theorem r32 : run tbl 80 170 l32 ⟨27733, putM P32 t6⟩ (memoK 28933 v32 Q32) = true := by decide +kernel
theorem w32 : wfM 27733 28933 P32 Q32 = true := by decide +kernel
end Go.Bvm.YtbabneakocnnoaaGreatDoorMDocLimits
