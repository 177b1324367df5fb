/- Calls of the law JsonDeep, run apart. Conditions: none. -/
import Derived.Test.YtacpnpdggbfkgaaDoorMJsonDeepD
import Derived.Test.YtacpnpdggbfkgaaDoorTJ
set_option maxRecDepth 100000
namespace Go.Bvm.YtacpnpdggbfkgaaDoorMJsonDeep
theorem r4 : run Go.Bvm.YtacpnpdggbfkgaaDoorTJ.tbl 80 47 l4 ⟨9133, putM P4 t6⟩ (memoK 10025 v4 Q4) = true := by decide +kernel
theorem w4 : wfM 9133 10025 P4 Q4 = true := by decide +kernel
theorem r5 : run Go.Bvm.YtacpnpdggbfkgaaDoorTJ.tbl 80 57 l5 ⟨10029, putM P5 t6⟩ (memoK 11219 v5 Q5) = true := by decide +kernel
theorem w5 : wfM 10029 11219 P5 Q5 = true := by decide +kernel
theorem r6 : run Go.Bvm.YtacpnpdggbfkgaaDoorTJ.tbl 80 47 l6 ⟨11222, putM P6 t6⟩ (memoK 12118 v6 Q6) = true := by decide +kernel
theorem w6 : wfM 11222 12118 P6 Q6 = true := by decide +kernel
theorem r7 : run Go.Bvm.YtacpnpdggbfkgaaDoorTJ.tbl 80 13 l7 ⟨12118, putM P7 t6⟩ (memoK 12714 v7 Q7) = true := by decide +kernel
theorem w7 : wfM 12118 12714 P7 Q7 = true := by decide +kernel
end Go.Bvm.YtacpnpdggbfkgaaDoorMJsonDeep
