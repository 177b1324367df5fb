/- Calls of the law JsonDeep, run apart. Conditions: none. -/
import Derived.Test.YtacpnpdggbfkgaaDoorMJsonDeepD
import Derived.Test.YtacpnpdggbfkgaaDoorTJ
set_option maxRecDepth 100000
namespace Go.Bvm.YtacpnpdggbfkgaaDoorMJsonDeep
theorem r15 : run Go.Bvm.YtacpnpdggbfkgaaDoorTJ.tbl 80 57 l15 ⟨19607, putM P15 t6⟩ (memoK 20805 v15 Q15) = true := by decide +kernel
theorem w15 : wfM 19607 20805 P15 Q15 = true := by decide +kernel
theorem r16 : run Go.Bvm.YtacpnpdggbfkgaaDoorTJ.tbl 80 47 l16 ⟨20808, putM P16 t6⟩ (memoK 21710 v16 Q16) = true := by decide +kernel
theorem w16 : wfM 20808 21710 P16 Q16 = true := by decide +kernel
theorem r17 : run Go.Bvm.YtacpnpdggbfkgaaDoorTJ.tbl 80 13 l17 ⟨21710, putM P17 t6⟩ (memoK 22310 v17 Q17) = true := by decide +kernel
theorem w17 : wfM 21710 22310 P17 Q17 = true := by decide +kernel
theorem r18 : run Go.Bvm.YtacpnpdggbfkgaaDoorTJ.tbl 80 57 l18 ⟨22314, putM P18 t6⟩ (memoK 23512 v18 Q18) = true := by decide +kernel
theorem w18 : wfM 22314 23512 P18 Q18 = true := by decide +kernel
end Go.Bvm.YtacpnpdggbfkgaaDoorMJsonDeep
