/- Calls of the law JsonDeep, run apart. Conditions: none. -/
import Derived.Test.YtacpnpdggbfkgaaDoorMJsonDeepD
import Derived.Test.YtacpnpdggbfkgaaDoorTJ
set_option maxRecDepth 100000
namespace Go.Bvm.YtacpnpdggbfkgaaDoorMJsonDeep
theorem r37 : run Go.Bvm.YtacpnpdggbfkgaaDoorTJ.tbl 80 47 l37 ⟨42513, putM P37 t6⟩ (memoK 43415 v37 Q37) = true := by decide +kernel
theorem w37 : wfM 42513 43415 P37 Q37 = true := by decide +kernel
theorem r38 : run Go.Bvm.YtacpnpdggbfkgaaDoorTJ.tbl 80 57 l38 ⟨43419, putM P38 t6⟩ (memoK 44621 v38 Q38) = true := by decide +kernel
theorem w38 : wfM 43419 44621 P38 Q38 = true := by decide +kernel
theorem r39 : run Go.Bvm.YtacpnpdggbfkgaaDoorTJ.tbl 80 47 l39 ⟨44624, putM P39 t6⟩ (memoK 45526 v39 Q39) = true := by decide +kernel
theorem w39 : wfM 44624 45526 P39 Q39 = true := by decide +kernel
end Go.Bvm.YtacpnpdggbfkgaaDoorMJsonDeep
