/- Calls of the law JsonDeep, run apart. Conditions: none. -/
import Derived.Test.YtacpnpdggbfkgaaDoorMJsonDeepD
import Derived.Test.YtacpnpdggbfkgaaDoorTJ
set_option maxRecDepth 100000
namespace Go.Bvm.YtacpnpdggbfkgaaDoorMJsonDeep
theorem r8 : run Go.Bvm.YtacpnpdggbfkgaaDoorTJ.tbl 80 57 l8 ⟨12718, putM P8 t6⟩ (memoK 13908 v8 Q8) = true := by decide +kernel
theorem w8 : wfM 12718 13908 P8 Q8 = true := by decide +kernel
theorem r9 : run Go.Bvm.YtacpnpdggbfkgaaDoorTJ.tbl 80 47 l9 ⟨13911, putM P9 t6⟩ (memoK 14806 v9 Q9) = true := by decide +kernel
theorem w9 : wfM 13911 14806 P9 Q9 = true := by decide +kernel
theorem r10 : run Go.Bvm.YtacpnpdggbfkgaaDoorTJ.tbl 80 57 l10 ⟨14810, putM P10 t6⟩ (memoK 16004 v10 Q10) = true := by decide +kernel
theorem w10 : wfM 14810 16004 P10 Q10 = true := by decide +kernel
end Go.Bvm.YtacpnpdggbfkgaaDoorMJsonDeep
