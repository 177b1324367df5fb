/- Calls of the law JsonDeep, run apart. Conditions: none. -/
import Derived.Test.YtacpnpdggbfkgaaDoorMJsonDeepD
import Derived.Test.YtacpnpdggbfkgaaDoorTJ
set_option maxRecDepth 100000
namespace Go.Bvm.YtacpnpdggbfkgaaDoorMJsonDeep
theorem r31 : run Go.Bvm.YtacpnpdggbfkgaaDoorTJ.tbl 80 47 l31 ⟨36180, putM P31 t6⟩ (memoK 37082 v31 Q31) = true := by decide +kernel
theorem w31 : wfM 36180 37082 P31 Q31 = true := by decide +kernel
theorem r32 : run Go.Bvm.YtacpnpdggbfkgaaDoorTJ.tbl 80 57 l32 ⟨37086, putM P32 t6⟩ (memoK 38288 v32 Q32) = true := by decide +kernel
theorem w32 : wfM 37086 38288 P32 Q32 = true := by decide +kernel
theorem r33 : run Go.Bvm.YtacpnpdggbfkgaaDoorTJ.tbl 80 47 l33 ⟨38291, putM P33 t6⟩ (memoK 39193 v33 Q33) = true := by decide +kernel
theorem w33 : wfM 38291 39193 P33 Q33 = true := by decide +kernel
end Go.Bvm.YtacpnpdggbfkgaaDoorMJsonDeep
