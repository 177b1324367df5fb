/- Calls of the law VarsTypes, run apart. Conditions: none. -/
import Derived.Test.YtjplhnnijolpnaaGreatDoorMVarsTypesD
import Derived.Test.YtjplhnnijolpnaaGreatDoorTV
set_option maxRecDepth 100000
namespace Go.Bvm.YtjplhnnijolpnaaGreatDoorMVarsTypes
theorem r138 : run Go.Bvm.YtjplhnnijolpnaaGreatDoorTV.tbl 80 19 l138 ⟨14273, putM P138 t6⟩ (memoK 14384 v138 Q138) = true := by decide +kernel
theorem w138 : wfM 14273 14384 P138 Q138 = true := by decide +kernel
theorem r139 : run Go.Bvm.YtjplhnnijolpnaaGreatDoorTV.tbl 80 19 l139 ⟨14398, putM P139 t6⟩ (memoK 14509 v139 Q139) = true := by decide +kernel
theorem w139 : wfM 14398 14509 P139 Q139 = true := by decide +kernel
theorem r140 : run Go.Bvm.YtjplhnnijolpnaaGreatDoorTV.tbl 80 19 l140 ⟨14522, putM P140 t6⟩ (memoK 14628 v140 Q140) = true := by decide +kernel
theorem w140 : wfM 14522 14628 P140 Q140 = true := by decide +kernel
theorem r141 : run Go.Bvm.YtjplhnnijolpnaaGreatDoorTV.tbl 80 19 l141 ⟨14641, putM P141 t6⟩ (memoK 14754 v141 Q141) = true := by decide +kernel
theorem w141 : wfM 14641 14754 P141 Q141 = true := by decide +kernel
theorem r142 : run Go.Bvm.YtjplhnnijolpnaaGreatDoorTV.tbl 80 19 l142 ⟨14771, putM P142 t6⟩ (memoK 14882 v142 Q142) = true := by decide +kernel
theorem w142 : wfM 14771 14882 P142 Q142 = true := by decide +kernel
theorem r143 : run Go.Bvm.YtjplhnnijolpnaaGreatDoorTV.tbl 80 19 l143 ⟨14895, putM P143 t6⟩ (memoK 15001 v143 Q143) = true := by decide +kernel
theorem w143 : wfM 14895 15001 P143 Q143 = true := by decide +kernel
end Go.Bvm.YtjplhnnijolpnaaGreatDoorMVarsTypes
