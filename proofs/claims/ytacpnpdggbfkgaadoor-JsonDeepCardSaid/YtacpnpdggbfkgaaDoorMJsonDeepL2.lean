/- The table of the law JsonDeep with calls that were run apart. Conditions: none. -/
import Derived.Test.YtacpnpdggbfkgaaDoorMJsonDeepL2R0
set_option linter.unusedVariables false
set_option maxRecDepth 100000
namespace Go.Bvm.YtacpnpdggbfkgaaDoorMJsonDeep
open Go.Proofs
noncomputable def A2_19 (cf : CallF) (l : V) (h : H) (k : KV) : Bool := bs (Nat.beq h.next 22) (memoA l40 22 45589 v40 P40 Q40 l h k) ((Go.Bvm.YtacpnpdggbfkgaaDoorTJ.T19 cf Go.Bvm.YtacpnpdggbfkgaaDoorTJ.big) l h k)
theorem A2_19_ok : EntOk Tryd.prog Go.Bvm.YtacpnpdggbfkgaaDoorTJ.G 19 A2_19 := (EntOk.memo (EntOk.fn Go.Bvm.YtacpnpdggbfkgaaDoorTJ.mixed Go.Bvm.YtacpnpdggbfkgaaDoorTJ.e19 Go.Bvm.YtacpnpdggbfkgaaDoorTJ.c19 Go.Bvm.YtacpnpdggbfkgaaDoorTJ.big) (run_ok tbl1_ok 80).1 r40 w40)
noncomputable def tbl2 (cf : CallF) (g : Nat) : V → H → KV → Bool := (bs (Nat.beq g 19) (A2_19 cf) (tbl1 cf g) : V → H → KV → Bool)
theorem tbl2_ok : TblOk Tryd.prog Go.Bvm.YtacpnpdggbfkgaaDoorTJ.G tbl2 := (TblOk.over tbl1_ok A2_19_ok)
end Go.Bvm.YtacpnpdggbfkgaaDoorMJsonDeep
