/- Calls of the law JsonDeep, run apart. Conditions: none. -/
import Derived.Test.YtacpnpdggbfkgaaDoorMJsonDeepD
import Derived.Test.YtacpnpdggbfkgaaDoorTJ
set_option maxRecDepth 100000
namespace Go.Bvm.YtacpnpdggbfkgaaDoorMJsonDeep
theorem r22 : run Go.Bvm.YtacpnpdggbfkgaaDoorTJ.tbl 80 57 l22 ⟨26531, putM P22 t6⟩ (memoK 27733 v22 Q22) = true := by decide +kernel
theorem w22 : wfM 26531 27733 P22 Q22 = true := by decide +kernel
theorem r23 : run Go.Bvm.YtacpnpdggbfkgaaDoorTJ.tbl 80 47 l23 ⟨27736, putM P23 t6⟩ (memoK 28638 v23 Q23) = true := by decide +kernel
theorem w23 : wfM 27736 28638 P23 Q23 = true := by decide +kernel
theorem r24 : run Go.Bvm.YtacpnpdggbfkgaaDoorTJ.tbl 80 57 l24 ⟨28642, putM P24 t6⟩ (memoK 29844 v24 Q24) = true := by decide +kernel
theorem w24 : wfM 28642 29844 P24 Q24 = true := by decide +kernel
end Go.Bvm.YtacpnpdggbfkgaaDoorMJsonDeep
