/- Calls of the law JsonDeep, run apart. Conditions: none. -/
import Derived.Test.YtacpnpdggbfkgaaDoorMJsonDeepD
import Derived.Test.YtacpnpdggbfkgaaDoorMJsonDeepL1
set_option maxRecDepth 100000
namespace Go.Bvm.YtacpnpdggbfkgaaDoorMJsonDeep
theorem r40 : run tbl1 80 19 l40 ⟨22, putM P40 t6⟩ (memoK 45589 v40 Q40) = true := by decide +kernel
theorem w40 : wfM 22 45589 P40 Q40 = true := by decide +kernel
end Go.Bvm.YtacpnpdggbfkgaaDoorMJsonDeep
