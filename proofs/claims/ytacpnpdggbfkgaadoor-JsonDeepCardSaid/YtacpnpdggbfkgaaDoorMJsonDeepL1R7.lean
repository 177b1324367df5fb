/- Calls of the law JsonDeep, run apart. Conditions: none. -/
import Derived.Test.YtacpnpdggbfkgaaDoorMJsonDeepD
import Derived.Test.YtacpnpdggbfkgaaDoorTJ
set_option maxRecDepth 100000
namespace Go.Bvm.YtacpnpdggbfkgaaDoorMJsonDeep
theorem r25 : run Go.Bvm.YtacpnpdggbfkgaaDoorTJ.tbl 80 47 l25 ⟨29847, putM P25 t6⟩ (memoK 30749 v25 Q25) = true := by decide +kernel
theorem w25 : wfM 29847 30749 P25 Q25 = true := by decide +kernel
theorem r26 : run Go.Bvm.YtacpnpdggbfkgaaDoorTJ.tbl 80 57 l26 ⟨30753, putM P26 t6⟩ (memoK 31955 v26 Q26) = true := by decide +kernel
theorem w26 : wfM 30753 31955 P26 Q26 = true := by decide +kernel
theorem r27 : run Go.Bvm.YtacpnpdggbfkgaaDoorTJ.tbl 80 47 l27 ⟨31958, putM P27 t6⟩ (memoK 32860 v27 Q27) = true := by decide +kernel
theorem w27 : wfM 31958 32860 P27 Q27 = true := by decide +kernel
end Go.Bvm.YtacpnpdggbfkgaaDoorMJsonDeep
