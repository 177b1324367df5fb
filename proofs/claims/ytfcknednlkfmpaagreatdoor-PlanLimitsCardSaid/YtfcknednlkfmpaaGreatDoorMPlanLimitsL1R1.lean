/- Calls of the law PlanLimits, run apart. Conditions: none. -/
import Derived.Test.YtfcknednlkfmpaaGreatDoorMPlanLimitsD
import Derived.Test.YtfcknednlkfmpaaGreatDoorTPli
set_option maxRecDepth 100000
namespace Go.Bvm.YtfcknednlkfmpaaGreatDoorMPlanLimits
theorem r17 : run Go.Bvm.YtfcknednlkfmpaaGreatDoorTPli.tbl 80 17 l17 ⟨8200, putM P17 t6⟩ (memoK 8426 v17 Q17) = true := by decide +kernel
theorem w17 : wfM 8200 8426 P17 Q17 = true := by decide +kernel
theorem r18 : run Go.Bvm.YtfcknednlkfmpaaGreatDoorTPli.tbl 80 22 l18 ⟨8426, putM P18 t6⟩ (memoK 9499 v18 Q18) = true := by decide +kernel
theorem w18 : wfM 8426 9499 P18 Q18 = true := by decide +kernel
theorem r19 : run Go.Bvm.YtfcknednlkfmpaaGreatDoorTPli.tbl 80 17 l19 ⟨9499, putM P19 t6⟩ (memoK 9725 v19 Q19) = true := by decide +kernel
theorem w19 : wfM 9499 9725 P19 Q19 = true := by decide +kernel
theorem r20 : run Go.Bvm.YtfcknednlkfmpaaGreatDoorTPli.tbl 80 22 l20 ⟨9725, putM P20 t6⟩ (memoK 10790 v20 Q20) = true := by decide +kernel
theorem w20 : wfM 9725 10790 P20 Q20 = true := by decide +kernel
theorem r21 : run Go.Bvm.YtfcknednlkfmpaaGreatDoorTPli.tbl 80 17 l21 ⟨10790, putM P21 t6⟩ (memoK 11016 v21 Q21) = true := by decide +kernel
theorem w21 : wfM 10790 11016 P21 Q21 = true := by decide +kernel
theorem r22 : run Go.Bvm.YtfcknednlkfmpaaGreatDoorTPli.tbl 80 10 l22 ⟨11016, putM P22 t6⟩ (memoK 11310 v22 Q22) = true := by decide +kernel
theorem w22 : wfM 11016 11310 P22 Q22 = true := by decide +kernel
theorem r23 : run Go.Bvm.YtfcknednlkfmpaaGreatDoorTPli.tbl 80 22 l23 ⟨11310, putM P23 t6⟩ (memoK 12619 v23 Q23) = true := by decide +kernel
theorem w23 : wfM 11310 12619 P23 Q23 = true := by decide +kernel
theorem r24 : run Go.Bvm.YtfcknednlkfmpaaGreatDoorTPli.tbl 80 17 l24 ⟨12619, putM P24 t6⟩ (memoK 12898 v24 Q24) = true := by decide +kernel
theorem w24 : wfM 12619 12898 P24 Q24 = true := by decide +kernel
theorem r25 : run Go.Bvm.YtfcknednlkfmpaaGreatDoorTPli.tbl 80 22 l25 ⟨12898, putM P25 t6⟩ (memoK 14219 v25 Q25) = true := by decide +kernel
theorem w25 : wfM 12898 14219 P25 Q25 = true := by decide +kernel
theorem r26 : run Go.Bvm.YtfcknednlkfmpaaGreatDoorTPli.tbl 80 17 l26 ⟨14219, putM P26 t6⟩ (memoK 14498 v26 Q26) = true := by decide +kernel
theorem w26 : wfM 14219 14498 P26 Q26 = true := by decide +kernel
theorem r27 : run Go.Bvm.YtfcknednlkfmpaaGreatDoorTPli.tbl 80 22 l27 ⟨14498, putM P27 t6⟩ (memoK 15811 v27 Q27) = true := by decide +kernel
theorem w27 : wfM 14498 15811 P27 Q27 = true := by decide +kernel
end Go.Bvm.YtfcknednlkfmpaaGreatDoorMPlanLimits
