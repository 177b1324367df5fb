/- The law RulesNames returns true at every input of which its row speaks, and the input reads behind the call as it did before. Conditions: none. -/
import Derived.Test.YtffgfnaomhjgmaaGreatDoorRows
import Derived.Test.YtffgfnaomhjgmaaGreatDoorRulesNamesRun
import Derived.Test.YtffgfnaomhjgmaaGreatDoorRulesNamesWit
set_option maxRecDepth 100000
namespace Go.Proofs.YtffgfnaomhjgmaaGreatDoor
open Go.Bvm

theorem rulesNames_lifted (os : Os) (started : os.Started) (H : Type) (enc : TypeId × Value → H) :
    ReturnsInHanded {} Tryz.checked os 3 .any (fun w args => (Rows.rulesNamesSpec.pre enc Tryz.prog Tryz.f3 Rows.rulesNamesRow.domain false w args ∧ laidMetH Tryz.prog Rows.rulesNamesRow.laid w) ∧ sizedMet enc Tryz.prog Tryz.f3 (OpenSpec.ofChange Rows.rulesNamesSpec) false w args)
      (Rows.rulesNamesSpec.post enc Tryz.prog Tryz.f3 false true false false) := by
  refine law_lifted_laid (C := Tryz.checked) (t := 39) (tb := 4) (by kernel_rfl) started (by kernel_rfl) Tryz.func3
    (ChangeSpec.witness_at (enc := enc) (C := Tryz.checked) (os := os) (X := fun w _ => laidMetH Tryz.prog Rows.rulesNamesRow.laid w) false (laidWorld Tryz.prog os Rows.rulesNamesRow.laid) #[.agg #[.slice none 0 0, .slice none 0 0, .slice none 0 0, .slice none 0 0, .slice none 0 0, .slice none 0 0, .slice none 0 0, .slice none 0 0, .slice none 0 0, .slice none 0 0]] 8
      (laidWorld_os _ _ _) (by kernel_rfl) (by kernel_rfl) (by kernel_rfl) (by kernel_rfl) (by kernel_rfl) (rulesNames_laid os _))
    rfl rfl (by kernel_rfl) rfl (fun _ => rfl) (by kernel_rfl) (by kernel_rfl) (of_decide_eq_true (by kernel_rfl)) ?_
  intro W base v hv
  exact law_call (G := Go.Bvm.YtffgfnaomhjgmaaGreatDoorTRul.G) Go.Bvm.YtffgfnaomhjgmaaGreatDoorTRul.mixed (fun _ => rfl) Go.Bvm.YtffgfnaomhjgmaaGreatDoorTRul.tbl_ok Go.Bvm.YtffgfnaomhjgmaaGreatDoorTRul.e3 Go.Bvm.YtffgfnaomhjgmaaGreatDoorTRul.c3 80 rulesNames_run (okWide_osl (by kernel_rfl) hv)

end Go.Proofs.YtffgfnaomhjgmaaGreatDoor
