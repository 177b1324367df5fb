/- The law RulesSelections returns true at every input of which its row speaks, and the input reads behind the call as it did before. Conditions: none. -/
import Derived.Test.YtffgfnaomhjgmaaGreatDoorRows
import Derived.Test.YtffgfnaomhjgmaaGreatDoorRulesSelectionsRun
import Derived.Test.YtffgfnaomhjgmaaGreatDoorRulesSelectionsWit
set_option maxRecDepth 100000
namespace Go.Proofs.YtffgfnaomhjgmaaGreatDoor
open Go.Bvm

theorem rulesSelections_lifted (os : Os) (started : os.Started) (H : Type) (enc : TypeId × Value → H) :
    ReturnsInHanded {} Tryz.checked os 8 .any (fun w args => (Rows.rulesSelectionsSpec.pre enc Tryz.prog Tryz.f8 Rows.rulesSelectionsRow.domain false w args ∧ laidMetH Tryz.prog Rows.rulesSelectionsRow.laid w) ∧ sizedMet enc Tryz.prog Tryz.f8 (OpenSpec.ofChange Rows.rulesSelectionsSpec) false w args)
      (Rows.rulesSelectionsSpec.post enc Tryz.prog Tryz.f8 false true false false) := by
  refine law_lifted_laid (C := Tryz.checked) (t := 39) (tb := 4) (by kernel_rfl) started (by kernel_rfl) Tryz.func8
    (ChangeSpec.witness_at (enc := enc) (C := Tryz.checked) (os := os) (X := fun w _ => laidMetH Tryz.prog Rows.rulesSelectionsRow.laid w) false (laidWorld Tryz.prog os Rows.rulesSelectionsRow.laid) #[.agg #[.slice none 0 0, .slice none 0 0, .slice none 0 0, .slice none 0 0, .slice none 0 0, .slice none 0 0, .slice none 0 0, .slice none 0 0, .slice none 0 0, .slice none 0 0]] 8
      (laidWorld_os _ _ _) (by kernel_rfl) (by kernel_rfl) (by kernel_rfl) (by kernel_rfl) (by kernel_rfl) (rulesSelections_laid os _))
    rfl rfl (by kernel_rfl) rfl (fun _ => rfl) (by kernel_rfl) (by kernel_rfl) (of_decide_eq_true (by kernel_rfl)) ?_
  intro W base v hv
  exact law_call (G := Go.Bvm.YtffgfnaomhjgmaaGreatDoorTRul.G) Go.Bvm.YtffgfnaomhjgmaaGreatDoorTRul.mixed (fun _ => rfl) Go.Bvm.YtffgfnaomhjgmaaGreatDoorTRul.tbl_ok Go.Bvm.YtffgfnaomhjgmaaGreatDoorTRul.e8 Go.Bvm.YtffgfnaomhjgmaaGreatDoorTRul.c8 80 rulesSelections_run (okWide_osl (by kernel_rfl) hv)

end Go.Proofs.YtffgfnaomhjgmaaGreatDoor
