/- Calls of the law DocLimits, run apart. Conditions: none. -/
import Derived.Test.YtbabneakocnnoaaGreatDoorMDocLimitsD
import Derived.Test.YtbabneakocnnoaaGreatDoorTE
set_option maxRecDepth 100000
namespace Go.Bvm.YtbabneakocnnoaaGreatDoorMDocLimits
open Go.Bvm.YtbabneakocnnoaaGreatDoorTE
theorem r11 : run tbl 80 48 l11 ⟨12699, putM P11 t6⟩ (memoK 13001 v11 Q11) = true := by decide +kernel
theorem w11 : wfM 12699 13001 P11 Q11 = true := by decide +kernel
theorem r12 : run tbl 80 91 l12 ⟨13005, putM P12 t6⟩ (memoK 14195 v12 Q12) = true := by decide +kernel
theorem w12 : wfM 13005 14195 P12 Q12 = true := by decide +kernel
theorem r13 : run tbl 80 21 l13 ⟨14201, putM P13 t6⟩ (memoK 14799 v13 Q13) = true := by decide +kernel
theorem w13 : wfM 14201 14799 P13 Q13 = true := by decide +kernel
theorem r14 : run tbl 80 45 l14 ⟨14799, putM P14 t6⟩ (memoK 15098 v14 Q14) = true := by decide +kernel
theorem w14 : wfM 14799 15098 P14 Q14 = true := by decide +kernel
theorem r15 : run tbl 80 170 l15 ⟨15101, putM P15 t6⟩ (memoK 16293 v15 Q15) = true := by decide +kernel
theorem w15 : wfM 15101 16293 P15 Q15 = true := by decide +kernel
theorem r16 : run tbl 80 48 l16 ⟨16296, putM P16 t6⟩ (memoK 16596 v16 Q16) = true := by decide +kernel
theorem w16 : wfM 16296 16596 P16 Q16 = true := by decide +kernel
end Go.Bvm.YtbabneakocnnoaaGreatDoorMDocLimits
