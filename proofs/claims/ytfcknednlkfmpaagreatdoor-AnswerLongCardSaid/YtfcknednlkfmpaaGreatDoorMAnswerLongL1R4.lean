/- Calls of the law AnswerLong, run apart. Conditions: none. -/
import Derived.Test.YtfcknednlkfmpaaGreatDoorMAnswerLongD
import Derived.Test.YtfcknednlkfmpaaGreatDoorTL
set_option maxRecDepth 100000
namespace Go.Bvm.YtfcknednlkfmpaaGreatDoorMAnswerLong
open Go.Bvm.YtfcknednlkfmpaaGreatDoorTL
theorem r37 : run tbl 80 11 l37 ⟨53785, putM P37 t6⟩ (memoK 60437 v37 Q37) = true := by decide +kernel
theorem w37 : wfM 53785 60437 P37 Q37 = true := by decide +kernel
theorem r38 : run tbl 80 13 l38 ⟨60438, putM P38 t6⟩ (memoK 63135 v38 Q38) = true := by decide +kernel
theorem w38 : wfM 60438 63135 P38 Q38 = true := by decide +kernel
theorem r39 : run tbl 80 15 l39 ⟨63135, putM P39 t6⟩ (memoK 63579 v39 Q39) = true := by decide +kernel
theorem w39 : wfM 63135 63579 P39 Q39 = true := by decide +kernel
theorem r40 : run tbl 80 10 l40 ⟨63580, putM P40 t6⟩ (memoK 63696 v40 Q40) = true := by decide +kernel
theorem w40 : wfM 63580 63696 P40 Q40 = true := by decide +kernel
end Go.Bvm.YtfcknednlkfmpaaGreatDoorMAnswerLong
