/- Calls of the law JsonDeep, run apart. Conditions: none. -/
import Derived.Test.YtacpnpdggbfkgaaDoorMJsonDeepD
import Derived.Test.YtacpnpdggbfkgaaDoorTJ
set_option maxRecDepth 100000
namespace Go.Bvm.YtacpnpdggbfkgaaDoorMJsonDeep
theorem r34 : run Go.Bvm.YtacpnpdggbfkgaaDoorTJ.tbl 80 57 l34 ⟨39197, putM P34 t6⟩ (memoK 40399 v34 Q34) = true := by decide +kernel
theorem w34 : wfM 39197 40399 P34 Q34 = true := by decide +kernel
theorem r35 : run Go.Bvm.YtacpnpdggbfkgaaDoorTJ.tbl 80 47 l35 ⟨40402, putM P35 t6⟩ (memoK 41304 v35 Q35) = true := by decide +kernel
theorem w35 : wfM 40402 41304 P35 Q35 = true := by decide +kernel
theorem r36 : run Go.Bvm.YtacpnpdggbfkgaaDoorTJ.tbl 80 57 l36 ⟨41308, putM P36 t6⟩ (memoK 42510 v36 Q36) = true := by decide +kernel
theorem w36 : wfM 41308 42510 P36 Q36 = true := by decide +kernel
end Go.Bvm.YtacpnpdggbfkgaaDoorMJsonDeep
