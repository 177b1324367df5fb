/- The table of the law DocLimits with calls that were run apart. Conditions: none. -/
import Derived.Test.YtbabneakocnnoaaGreatDoorMDocLimitsL2R0
set_option linter.unusedVariables false
set_option maxRecDepth 100000
namespace Go.Bvm.YtbabneakocnnoaaGreatDoorMDocLimits
open Go.Proofs
theorem R2 : CallS Tryz.prog Go.Bvm.YtbabneakocnnoaaGreatDoorTE.G (run tbl1 80) := (run_ok tbl1_ok 80).1
noncomputable abbrev B2_7 (cf : CallF) : V → H → KV → Bool := Go.Bvm.YtbabneakocnnoaaGreatDoorTE.T7 cf Go.Bvm.YtbabneakocnnoaaGreatDoorTE.big
theorem B2_7_ok : EntOk Tryz.prog Go.Bvm.YtbabneakocnnoaaGreatDoorTE.G 7 B2_7 := .fn Go.Bvm.YtbabneakocnnoaaGreatDoorTE.mixed Go.Bvm.YtbabneakocnnoaaGreatDoorTE.e7 Go.Bvm.YtbabneakocnnoaaGreatDoorTE.c7 Go.Bvm.YtbabneakocnnoaaGreatDoorTE.big
noncomputable def A2_7 (cf : CallF) (l : V) (h : H) (k : KV) : Bool := bs (Nat.beq h.next 27) (memoA l75 27 60827 v75 P75 Q75 l h k) (B2_7 cf l h k)
theorem A2_7_ok : EntOk Tryz.prog Go.Bvm.YtbabneakocnnoaaGreatDoorTE.G 7 A2_7 := (.memo B2_7_ok R2 r75 w75)
noncomputable def tbl2 (cf : CallF) (g : Nat) : V → H → KV → Bool := (bs (Nat.beq g 7) (A2_7 cf) (tbl1 cf g) : V → H → KV → Bool)
theorem tbl2_ok : TblOk Tryz.prog Go.Bvm.YtbabneakocnnoaaGreatDoorTE.G tbl2 := (TblOk.over tbl1_ok A2_7_ok)
end Go.Bvm.YtbabneakocnnoaaGreatDoorMDocLimits
