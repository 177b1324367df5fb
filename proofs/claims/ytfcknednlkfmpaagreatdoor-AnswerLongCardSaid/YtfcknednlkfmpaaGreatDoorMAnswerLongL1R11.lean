/- Calls of the law AnswerLong, run apart. Conditions: none. -/
import Derived.Test.YtfcknednlkfmpaaGreatDoorMAnswerLongD
import Derived.Test.YtfcknednlkfmpaaGreatDoorTL
set_option maxRecDepth 100000
namespace Go.Bvm.YtfcknednlkfmpaaGreatDoorMAnswerLong
open Go.Bvm.YtfcknednlkfmpaaGreatDoorTL
theorem r65 : run tbl 80 11 l65 ⟨144997, putM P65 t6⟩ (memoK 154047 v65 Q65) = true := by decide +kernel
theorem w65 : wfM 144997 154047 P65 Q65 = true := by decide +kernel
theorem r66 : run tbl 80 13 l66 ⟨154048, putM P66 t6⟩ (memoK 158338 v66 Q66) = true := by decide +kernel
theorem w66 : wfM 154048 158338 P66 Q66 = true := by decide +kernel
theorem r67 : run tbl 80 10 l67 ⟨158339, putM P67 t6⟩ (memoK 158519 v67 Q67) = true := by decide +kernel
theorem w67 : wfM 158339 158519 P67 Q67 = true := by decide +kernel
end Go.Bvm.YtfcknednlkfmpaaGreatDoorMAnswerLong
