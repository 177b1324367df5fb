/- Calls of the law JsonDeep, run apart. Conditions: none. -/
import Derived.Test.YtacpnpdggbfkgaaDoorMJsonDeepD
import Derived.Test.YtacpnpdggbfkgaaDoorTJ
set_option maxRecDepth 100000
namespace Go.Bvm.YtacpnpdggbfkgaaDoorMJsonDeep
theorem r11 : run Go.Bvm.YtacpnpdggbfkgaaDoorTJ.tbl 80 47 l11 ⟨16007, putM P11 t6⟩ (memoK 16906 v11 Q11) = true := by decide +kernel
theorem w11 : wfM 16007 16906 P11 Q11 = true := by decide +kernel
theorem r12 : run Go.Bvm.YtacpnpdggbfkgaaDoorTJ.tbl 80 13 l12 ⟨16906, putM P12 t6⟩ (memoK 17504 v12 Q12) = true := by decide +kernel
theorem w12 : wfM 16906 17504 P12 Q12 = true := by decide +kernel
theorem r13 : run Go.Bvm.YtacpnpdggbfkgaaDoorTJ.tbl 80 57 l13 ⟨17508, putM P13 t6⟩ (memoK 18702 v13 Q13) = true := by decide +kernel
theorem w13 : wfM 17508 18702 P13 Q13 = true := by decide +kernel
theorem r14 : run Go.Bvm.YtacpnpdggbfkgaaDoorTJ.tbl 80 47 l14 ⟨18705, putM P14 t6⟩ (memoK 19603 v14 Q14) = true := by decide +kernel
theorem w14 : wfM 18705 19603 P14 Q14 = true := by decide +kernel
end Go.Bvm.YtacpnpdggbfkgaaDoorMJsonDeep
