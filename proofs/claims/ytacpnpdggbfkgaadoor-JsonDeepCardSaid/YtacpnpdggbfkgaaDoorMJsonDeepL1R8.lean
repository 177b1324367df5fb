/- Calls of the law JsonDeep, run apart. Conditions: none. -/
import Derived.Test.YtacpnpdggbfkgaaDoorMJsonDeepD
import Derived.Test.YtacpnpdggbfkgaaDoorTJ
set_option maxRecDepth 100000
namespace Go.Bvm.YtacpnpdggbfkgaaDoorMJsonDeep
theorem r28 : run Go.Bvm.YtacpnpdggbfkgaaDoorTJ.tbl 80 57 l28 ⟨32864, putM P28 t6⟩ (memoK 34066 v28 Q28) = true := by decide +kernel
theorem w28 : wfM 32864 34066 P28 Q28 = true := by decide +kernel
theorem r29 : run Go.Bvm.YtacpnpdggbfkgaaDoorTJ.tbl 80 47 l29 ⟨34069, putM P29 t6⟩ (memoK 34971 v29 Q29) = true := by decide +kernel
theorem w29 : wfM 34069 34971 P29 Q29 = true := by decide +kernel
theorem r30 : run Go.Bvm.YtacpnpdggbfkgaaDoorTJ.tbl 80 57 l30 ⟨34975, putM P30 t6⟩ (memoK 36177 v30 Q30) = true := by decide +kernel
theorem w30 : wfM 34975 36177 P30 Q30 = true := by decide +kernel
end Go.Bvm.YtacpnpdggbfkgaaDoorMJsonDeep
