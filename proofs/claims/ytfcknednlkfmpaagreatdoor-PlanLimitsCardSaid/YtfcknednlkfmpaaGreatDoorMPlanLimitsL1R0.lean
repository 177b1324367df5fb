/- Calls of the law PlanLimits, run apart. Conditions: none. -/
import Derived.Test.YtfcknednlkfmpaaGreatDoorMPlanLimitsD
import Derived.Test.YtfcknednlkfmpaaGreatDoorTPli
set_option maxRecDepth 100000
namespace Go.Bvm.YtfcknednlkfmpaaGreatDoorMPlanLimits
theorem r0 : run Go.Bvm.YtfcknednlkfmpaaGreatDoorTPli.tbl 80 10 l0 ⟨270, putM P0 t6⟩ (memoK 344 v0 Q0) = true := by decide +kernel
theorem w0 : wfM 270 344 P0 Q0 = true := by decide +kernel
theorem r1 : run Go.Bvm.YtfcknednlkfmpaaGreatDoorTPli.tbl 80 22 l1 ⟨344, putM P1 t6⟩ (memoK 667 v1 Q1) = true := by decide +kernel
theorem w1 : wfM 344 667 P1 Q1 = true := by decide +kernel
theorem r2 : run Go.Bvm.YtfcknednlkfmpaaGreatDoorTPli.tbl 80 22 l2 ⟨734, putM P2 t6⟩ (memoK 1069 v2 Q2) = true := by decide +kernel
theorem w2 : wfM 734 1069 P2 Q2 = true := by decide +kernel
theorem r3 : run Go.Bvm.YtfcknednlkfmpaaGreatDoorTPli.tbl 80 22 l3 ⟨1136, putM P3 t6⟩ (memoK 1463 v3 Q3) = true := by decide +kernel
theorem w3 : wfM 1136 1463 P3 Q3 = true := by decide +kernel
theorem r4 : run Go.Bvm.YtfcknednlkfmpaaGreatDoorTPli.tbl 80 10 l4 ⟨1530, putM P4 t6⟩ (memoK 1659 v4 Q4) = true := by decide +kernel
theorem w4 : wfM 1530 1659 P4 Q4 = true := by decide +kernel
theorem r5 : run Go.Bvm.YtfcknednlkfmpaaGreatDoorTPli.tbl 80 22 l5 ⟨1659, putM P5 t6⟩ (memoK 2227 v5 Q5) = true := by decide +kernel
theorem w5 : wfM 1659 2227 P5 Q5 = true := by decide +kernel
theorem r6 : run Go.Bvm.YtfcknednlkfmpaaGreatDoorTPli.tbl 80 22 l6 ⟨2347, putM P6 t6⟩ (memoK 2927 v6 Q6) = true := by decide +kernel
theorem w6 : wfM 2347 2927 P6 Q6 = true := by decide +kernel
theorem r7 : run Go.Bvm.YtfcknednlkfmpaaGreatDoorTPli.tbl 80 22 l7 ⟨3047, putM P7 t6⟩ (memoK 3619 v7 Q7) = true := by decide +kernel
theorem w7 : wfM 3047 3619 P7 Q7 = true := by decide +kernel
theorem r8 : run Go.Bvm.YtfcknednlkfmpaaGreatDoorTPli.tbl 80 10 l8 ⟨3739, putM P8 t6⟩ (memoK 3923 v8 Q8) = true := by decide +kernel
theorem w8 : wfM 3739 3923 P8 Q8 = true := by decide +kernel
theorem r9 : run Go.Bvm.YtfcknednlkfmpaaGreatDoorTPli.tbl 80 22 l9 ⟨3923, putM P9 t6⟩ (memoK 4737 v9 Q9) = true := by decide +kernel
theorem w9 : wfM 3923 4737 P9 Q9 = true := by decide +kernel
theorem r10 : run Go.Bvm.YtfcknednlkfmpaaGreatDoorTPli.tbl 80 17 l10 ⟨4737, putM P10 t6⟩ (memoK 4910 v10 Q10) = true := by decide +kernel
theorem w10 : wfM 4737 4910 P10 Q10 = true := by decide +kernel
theorem r11 : run Go.Bvm.YtfcknednlkfmpaaGreatDoorTPli.tbl 80 22 l11 ⟨4910, putM P11 t6⟩ (memoK 5736 v11 Q11) = true := by decide +kernel
theorem w11 : wfM 4910 5736 P11 Q11 = true := by decide +kernel
theorem r12 : run Go.Bvm.YtfcknednlkfmpaaGreatDoorTPli.tbl 80 17 l12 ⟨5736, putM P12 t6⟩ (memoK 5909 v12 Q12) = true := by decide +kernel
theorem w12 : wfM 5736 5909 P12 Q12 = true := by decide +kernel
theorem r13 : run Go.Bvm.YtfcknednlkfmpaaGreatDoorTPli.tbl 80 22 l13 ⟨5909, putM P13 t6⟩ (memoK 6727 v13 Q13) = true := by decide +kernel
theorem w13 : wfM 5909 6727 P13 Q13 = true := by decide +kernel
theorem r14 : run Go.Bvm.YtfcknednlkfmpaaGreatDoorTPli.tbl 80 17 l14 ⟨6727, putM P14 t6⟩ (memoK 6900 v14 Q14) = true := by decide +kernel
theorem w14 : wfM 6727 6900 P14 Q14 = true := by decide +kernel
theorem r15 : run Go.Bvm.YtfcknednlkfmpaaGreatDoorTPli.tbl 80 10 l15 ⟨6900, putM P15 t6⟩ (memoK 7139 v15 Q15) = true := by decide +kernel
theorem w15 : wfM 6900 7139 P15 Q15 = true := by decide +kernel
theorem r16 : run Go.Bvm.YtfcknednlkfmpaaGreatDoorTPli.tbl 80 22 l16 ⟨7139, putM P16 t6⟩ (memoK 8200 v16 Q16) = true := by decide +kernel
theorem w16 : wfM 7139 8200 P16 Q16 = true := by decide +kernel
end Go.Bvm.YtfcknednlkfmpaaGreatDoorMPlanLimits
