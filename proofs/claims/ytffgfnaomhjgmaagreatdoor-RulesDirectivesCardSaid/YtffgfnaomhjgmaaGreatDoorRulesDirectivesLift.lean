/- The law RulesDirectives returns true at every input of which its row speaks, and the input reads behind the call as it did before. Conditions: none. -/
import Derived.Test.YtffgfnaomhjgmaaGreatDoorRows
import Derived.Test.YtffgfnaomhjgmaaGreatDoorRulesDirectivesRun
import Derived.Test.YtffgfnaomhjgmaaGreatDoorRulesDirectivesWit
set_option maxRecDepth 100000
namespace Go.Proofs.YtffgfnaomhjgmaaGreatDoor
open Go.Bvm

theorem rulesDirectives_lifted (os : Os) (started : os.Started) (H : Type) (enc : TypeId × Value → H) :
    ReturnsInHanded {} Tryz.checked os 7 .any (fun w args => (Rows.rulesDirectivesSpec.pre enc Tryz.prog Tryz.f7 Rows.rulesDirectivesRow.domain false w args ∧ laidMetH Tryz.prog Rows.rulesDirectivesRow.laid w) ∧ sizedMet enc Tryz.prog Tryz.f7 (OpenSpec.ofChange Rows.rulesDirectivesSpec) false w args)
      (Rows.rulesDirectivesSpec.post enc Tryz.prog Tryz.f7 false true false false) := by
  refine law_lifted_laid (C := Tryz.checked) (t := 39) (tb := 4) (by kernel_rfl) started (by kernel_rfl) Tryz.func7
    (ChangeSpec.witness_at (enc := enc) (C := Tryz.checked) (os := os) (X := fun w _ => laidMetH Tryz.prog Rows.rulesDirectivesRow.laid w) false (laidWorld Tryz.prog os Rows.rulesDirectivesRow.laid) #[.agg #[.slice none 0 0, .slice none 0 0, .slice none 0 0, .slice none 0 0, .slice none 0 0, .slice none 0 0, .slice none 0 0, .slice none 0 0, .slice none 0 0, .slice none 0 0]] 8
      (laidWorld_os _ _ _) (by kernel_rfl) (by kernel_rfl) (by kernel_rfl) (by kernel_rfl) (by kernel_rfl) (rulesDirectives_laid os _))
    rfl rfl (by kernel_rfl) rfl (fun _ => rfl) (by kernel_rfl) (by kernel_rfl) (of_decide_eq_true (by kernel_rfl)) ?_
  intro W base v hv
  exact law_call (G := Go.Bvm.YtffgfnaomhjgmaaGreatDoorTRul.G) Go.Bvm.YtffgfnaomhjgmaaGreatDoorTRul.mixed (fun _ => rfl) Go.Bvm.YtffgfnaomhjgmaaGreatDoorTRul.tbl_ok Go.Bvm.YtffgfnaomhjgmaaGreatDoorTRul.e7 Go.Bvm.YtffgfnaomhjgmaaGreatDoorTRul.c7 80 rulesDirectives_run (okWide_osl (by kernel_rfl) hv)

end Go.Proofs.YtffgfnaomhjgmaaGreatDoor
