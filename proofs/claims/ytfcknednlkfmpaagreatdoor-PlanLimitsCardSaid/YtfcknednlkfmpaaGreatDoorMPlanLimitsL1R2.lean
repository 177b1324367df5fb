/- Calls of the law PlanLimits, run apart. Conditions: none. -/
import Derived.Test.YtfcknednlkfmpaaGreatDoorMPlanLimitsD
import Derived.Test.YtfcknednlkfmpaaGreatDoorTPli
set_option maxRecDepth 100000
namespace Go.Bvm.YtfcknednlkfmpaaGreatDoorMPlanLimits
theorem r28 : run Go.Bvm.YtfcknednlkfmpaaGreatDoorTPli.tbl 80 17 l28 ⟨15811, putM P28 t6⟩ (memoK 16090 v28 Q28) = true := by decide +kernel
theorem w28 : wfM 15811 16090 P28 Q28 = true := by decide +kernel
theorem r29 : run Go.Bvm.YtfcknednlkfmpaaGreatDoorTPli.tbl 80 10 l29 ⟨16090, putM P29 t6⟩ (memoK 16439 v29 Q29) = true := by decide +kernel
theorem w29 : wfM 16090 16439 P29 Q29 = true := by decide +kernel
theorem r30 : run Go.Bvm.YtfcknednlkfmpaaGreatDoorTPli.tbl 80 22 l30 ⟨16439, putM P30 t6⟩ (memoK 17900 v30 Q30) = true := by decide +kernel
theorem w30 : wfM 16439 17900 P30 Q30 = true := by decide +kernel
theorem r31 : run Go.Bvm.YtfcknednlkfmpaaGreatDoorTPli.tbl 80 17 l31 ⟨17900, putM P31 t6⟩ (memoK 18213 v31 Q31) = true := by decide +kernel
theorem w31 : wfM 17900 18213 P31 Q31 = true := by decide +kernel
theorem r32 : run Go.Bvm.YtfcknednlkfmpaaGreatDoorTPli.tbl 80 22 l32 ⟨18213, putM P32 t6⟩ (memoK 19686 v32 Q32) = true := by decide +kernel
theorem w32 : wfM 18213 19686 P32 Q32 = true := by decide +kernel
theorem r33 : run Go.Bvm.YtfcknednlkfmpaaGreatDoorTPli.tbl 80 17 l33 ⟨19686, putM P33 t6⟩ (memoK 19999 v33 Q33) = true := by decide +kernel
theorem w33 : wfM 19686 19999 P33 Q33 = true := by decide +kernel
theorem r34 : run Go.Bvm.YtfcknednlkfmpaaGreatDoorTPli.tbl 80 22 l34 ⟨19999, putM P34 t6⟩ (memoK 21464 v34 Q34) = true := by decide +kernel
theorem w34 : wfM 19999 21464 P34 Q34 = true := by decide +kernel
theorem r35 : run Go.Bvm.YtfcknednlkfmpaaGreatDoorTPli.tbl 80 17 l35 ⟨21464, putM P35 t6⟩ (memoK 21777 v35 Q35) = true := by decide +kernel
theorem w35 : wfM 21464 21777 P35 Q35 = true := by decide +kernel
theorem r36 : run Go.Bvm.YtfcknednlkfmpaaGreatDoorTPli.tbl 80 10 l36 ⟨21777, putM P36 t6⟩ (memoK 22181 v36 Q36) = true := by decide +kernel
theorem w36 : wfM 21777 22181 P36 Q36 = true := by decide +kernel
end Go.Bvm.YtfcknednlkfmpaaGreatDoorMPlanLimits
