/- Calls of the law PlanLimits, run apart. Conditions: none. -/
import Derived.Test.YtfcknednlkfmpaaGreatDoorMPlanLimitsD
import Derived.Test.YtfcknednlkfmpaaGreatDoorTPli
set_option maxRecDepth 100000
namespace Go.Bvm.YtfcknednlkfmpaaGreatDoorMPlanLimits
theorem r37 : run Go.Bvm.YtfcknednlkfmpaaGreatDoorTPli.tbl 80 22 l37 ⟨22181, putM P37 t6⟩ (memoK 23876 v37 Q37) = true := by decide +kernel
theorem w37 : wfM 22181 23876 P37 Q37 = true := by decide +kernel
theorem r38 : run Go.Bvm.YtfcknednlkfmpaaGreatDoorTPli.tbl 80 17 l38 ⟨23876, putM P38 t6⟩ (memoK 24239 v38 Q38) = true := by decide +kernel
theorem w38 : wfM 23876 24239 P38 Q38 = true := by decide +kernel
theorem r39 : run Go.Bvm.YtfcknednlkfmpaaGreatDoorTPli.tbl 80 22 l39 ⟨24239, putM P39 t6⟩ (memoK 25946 v39 Q39) = true := by decide +kernel
theorem w39 : wfM 24239 25946 P39 Q39 = true := by decide +kernel
theorem r40 : run Go.Bvm.YtfcknednlkfmpaaGreatDoorTPli.tbl 80 17 l40 ⟨25946, putM P40 t6⟩ (memoK 26309 v40 Q40) = true := by decide +kernel
theorem w40 : wfM 25946 26309 P40 Q40 = true := by decide +kernel
theorem r41 : run Go.Bvm.YtfcknednlkfmpaaGreatDoorTPli.tbl 80 22 l41 ⟨26309, putM P41 t6⟩ (memoK 28008 v41 Q41) = true := by decide +kernel
theorem w41 : wfM 26309 28008 P41 Q41 = true := by decide +kernel
theorem r42 : run Go.Bvm.YtfcknednlkfmpaaGreatDoorTPli.tbl 80 17 l42 ⟨28008, putM P42 t6⟩ (memoK 28371 v42 Q42) = true := by decide +kernel
theorem w42 : wfM 28008 28371 P42 Q42 = true := by decide +kernel
end Go.Bvm.YtfcknednlkfmpaaGreatDoorMPlanLimits
