/- Calls of the law DocLimits, run apart. Conditions: none. -/
import Derived.Test.YtbabneakocnnoaaGreatDoorMDocLimitsD
import Derived.Test.YtbabneakocnnoaaGreatDoorTE
set_option maxRecDepth 100000
namespace Go.Bvm.YtbabneakocnnoaaGreatDoorMDocLimits
open Go.Bvm.YtbabneakocnnoaaGreatDoorTE
theorem r0 : run tbl 80 45 l0 ⟨4629, putM P0 t6⟩ (memoK 4928 v0 Q0) = true := by decide +kernel
theorem w0 : wfM 4629 4928 P0 Q0 = true := by decide +kernel
theorem r1 : run tbl 80 170 l1 ⟨4931, putM P1 t6⟩ (memoK 6117 v1 Q1) = true := by decide +kernel
theorem w1 : wfM 4931 6117 P1 Q1 = true := by decide +kernel
theorem r2 : run tbl 80 48 l2 ⟨6123, putM P2 t6⟩ (memoK 6424 v2 Q2) = true := by decide +kernel
theorem w2 : wfM 6123 6424 P2 Q2 = true := by decide +kernel
theorem r3 : run tbl 80 91 l3 ⟨6428, putM P3 t6⟩ (memoK 7614 v3 Q3) = true := by decide +kernel
theorem w3 : wfM 6428 7614 P3 Q3 = true := by decide +kernel
theorem r4 : run tbl 80 21 l4 ⟨7620, putM P4 t6⟩ (memoK 8216 v4 Q4) = true := by decide +kernel
theorem w4 : wfM 7620 8216 P4 Q4 = true := by decide +kernel
theorem r5 : run tbl 80 45 l5 ⟨8216, putM P5 t6⟩ (memoK 8514 v5 Q5) = true := by decide +kernel
theorem w5 : wfM 8216 8514 P5 Q5 = true := by decide +kernel
end Go.Bvm.YtbabneakocnnoaaGreatDoorMDocLimits
