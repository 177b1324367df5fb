/- The table of the law PlanTexts with calls that were run apart. Conditions: none. -/
import Derived.Test.YtfcknednlkfmpaaGreatDoorMPlanTextsL3R0
set_option linter.unusedVariables false
set_option maxRecDepth 100000
namespace Go.Bvm.YtfcknednlkfmpaaGreatDoorMPlanTexts
open Go.Proofs
theorem R3 : CallS Tryz.prog Go.Bvm.YtfcknednlkfmpaaGreatDoorTP.G (run tbl2 80) := (run_ok tbl2_ok 80).1
noncomputable abbrev B3_7 (cf : CallF) : V → H → KV → Bool := Go.Bvm.YtfcknednlkfmpaaGreatDoorTP.T7 cf Go.Bvm.YtfcknednlkfmpaaGreatDoorTP.big
theorem B3_7_ok : EntOk Tryz.prog Go.Bvm.YtfcknednlkfmpaaGreatDoorTP.G 7 B3_7 := .fn Go.Bvm.YtfcknednlkfmpaaGreatDoorTP.mixed Go.Bvm.YtfcknednlkfmpaaGreatDoorTP.e7 Go.Bvm.YtfcknednlkfmpaaGreatDoorTP.c7 Go.Bvm.YtfcknednlkfmpaaGreatDoorTP.big
noncomputable def A3_7 (cf : CallF) (l : V) (h : H) (k : KV) : Bool := bs (Nat.beq h.next 7) (memoA l39 7 13800 v39 P39 Q39 l h k) (B3_7 cf l h k)
theorem A3_7_ok : EntOk Tryz.prog Go.Bvm.YtfcknednlkfmpaaGreatDoorTP.G 7 A3_7 := (.memo B3_7_ok R3 r39 w39)
noncomputable def tbl3 (cf : CallF) (g : Nat) : V → H → KV → Bool := (bs (Nat.beq g 7) (A3_7 cf) (tbl2 cf g) : V → H → KV → Bool)
theorem tbl3_ok : TblOk Tryz.prog Go.Bvm.YtfcknednlkfmpaaGreatDoorTP.G tbl3 := (TblOk.over tbl2_ok A3_7_ok)
end Go.Bvm.YtfcknednlkfmpaaGreatDoorMPlanTexts
