/- Calls of the law JsonDeep, run apart. Conditions: none. -/
import Derived.Test.YtacpnpdggbfkgaaDoorMJsonDeepD
import Derived.Test.YtacpnpdggbfkgaaDoorTJ
set_option maxRecDepth 100000
namespace Go.Bvm.YtacpnpdggbfkgaaDoorMJsonDeep
theorem r19 : run Go.Bvm.YtacpnpdggbfkgaaDoorTJ.tbl 80 47 l19 ⟨23515, putM P19 t6⟩ (memoK 24416 v19 Q19) = true := by decide +kernel
theorem w19 : wfM 23515 24416 P19 Q19 = true := by decide +kernel
theorem r20 : run Go.Bvm.YtacpnpdggbfkgaaDoorTJ.tbl 80 57 l20 ⟨24420, putM P20 t6⟩ (memoK 25622 v20 Q20) = true := by decide +kernel
theorem w20 : wfM 24420 25622 P20 Q20 = true := by decide +kernel
theorem r21 : run Go.Bvm.YtacpnpdggbfkgaaDoorTJ.tbl 80 47 l21 ⟨25625, putM P21 t6⟩ (memoK 26527 v21 Q21) = true := by decide +kernel
theorem w21 : wfM 25625 26527 P21 Q21 = true := by decide +kernel
end Go.Bvm.YtacpnpdggbfkgaaDoorMJsonDeep
