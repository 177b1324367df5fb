/- Calls of the law JsonDeep, run apart. Conditions: none. -/
import Derived.Test.YtacpnpdggbfkgaaDoorMJsonDeepD
import Derived.Test.YtacpnpdggbfkgaaDoorTJ
set_option maxRecDepth 100000
namespace Go.Bvm.YtacpnpdggbfkgaaDoorMJsonDeep
theorem r0 : run Go.Bvm.YtacpnpdggbfkgaaDoorTJ.tbl 80 57 l0 ⟨5264, putM P0 t6⟩ (memoK 6450 v0 Q0) = true := by decide +kernel
theorem w0 : wfM 5264 6450 P0 Q0 = true := by decide +kernel
theorem r1 : run Go.Bvm.YtacpnpdggbfkgaaDoorTJ.tbl 80 47 l1 ⟨6453, putM P1 t6⟩ (memoK 7346 v1 Q1) = true := by decide +kernel
theorem w1 : wfM 6453 7346 P1 Q1 = true := by decide +kernel
theorem r2 : run Go.Bvm.YtacpnpdggbfkgaaDoorTJ.tbl 80 13 l2 ⟨7346, putM P2 t6⟩ (memoK 7940 v2 Q2) = true := by decide +kernel
theorem w2 : wfM 7346 7940 P2 Q2 = true := by decide +kernel
theorem r3 : run Go.Bvm.YtacpnpdggbfkgaaDoorTJ.tbl 80 57 l3 ⟨7944, putM P3 t6⟩ (memoK 9130 v3 Q3) = true := by decide +kernel
theorem w3 : wfM 7944 9130 P3 Q3 = true := by decide +kernel
end Go.Bvm.YtacpnpdggbfkgaaDoorMJsonDeep
