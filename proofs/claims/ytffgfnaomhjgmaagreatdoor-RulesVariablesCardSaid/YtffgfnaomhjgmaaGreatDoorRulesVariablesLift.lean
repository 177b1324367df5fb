/- The law RulesVariables returns true at every input of which its row speaks, and the input reads behind the call as it did before. Conditions: none. -/
import Derived.Test.YtffgfnaomhjgmaaGreatDoorRows
import Derived.Test.YtffgfnaomhjgmaaGreatDoorRulesVariablesRun
import Derived.Test.YtffgfnaomhjgmaaGreatDoorRulesVariablesWit
set_option maxRecDepth 100000
namespace Go.Proofs.YtffgfnaomhjgmaaGreatDoor
open Go.Bvm

theorem rulesVariables_lifted (os : Os) (started : os.Started) (H : Type) (enc : TypeId × Value → H) :
    ReturnsInHanded {} Tryz.checked os 6 .any (fun w args => (Rows.rulesVariablesSpec.pre enc Tryz.prog Tryz.f6 Rows.rulesVariablesRow.domain false w args ∧ laidMetH Tryz.prog Rows.rulesVariablesRow.laid w) ∧ sizedMet enc Tryz.prog Tryz.f6 (OpenSpec.ofChange Rows.rulesVariablesSpec) false w args)
      (Rows.rulesVariablesSpec.post enc Tryz.prog Tryz.f6 false true false false) := by
  refine law_lifted_laid (C := Tryz.checked) (t := 39) (tb := 4) (by kernel_rfl) started (by kernel_rfl) Tryz.func6
    (ChangeSpec.witness_at (enc := enc) (C := Tryz.checked) (os := os) (X := fun w _ => laidMetH Tryz.prog Rows.rulesVariablesRow.laid w) false (laidWorld Tryz.prog os Rows.rulesVariablesRow.laid) #[.agg #[.slice none 0 0, .slice none 0 0, .slice none 0 0, .slice none 0 0, .slice none 0 0, .slice none 0 0, .slice none 0 0, .slice none 0 0, .slice none 0 0, .slice none 0 0]] 8
      (laidWorld_os _ _ _) (by kernel_rfl) (by kernel_rfl) (by kernel_rfl) (by kernel_rfl) (by kernel_rfl) (rulesVariables_laid os _))
    rfl rfl (by kernel_rfl) rfl (fun _ => rfl) (by kernel_rfl) (by kernel_rfl) (of_decide_eq_true (by kernel_rfl)) ?_
  intro W base v hv
  exact law_call (G := Go.Bvm.YtffgfnaomhjgmaaGreatDoorTRul.G) Go.Bvm.YtffgfnaomhjgmaaGreatDoorTRul.mixed (fun _ => rfl) Go.Bvm.YtffgfnaomhjgmaaGreatDoorTRul.tbl_ok Go.Bvm.YtffgfnaomhjgmaaGreatDoorTRul.e6 Go.Bvm.YtffgfnaomhjgmaaGreatDoorTRul.c6 80 rulesVariables_run (okWide_osl (by kernel_rfl) hv)

end Go.Proofs.YtffgfnaomhjgmaaGreatDoor
