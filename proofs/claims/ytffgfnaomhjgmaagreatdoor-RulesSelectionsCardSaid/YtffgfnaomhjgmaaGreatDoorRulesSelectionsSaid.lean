/- The row of the law RulesSelections holds. Conditions: none. -/
import Derived.Test.YtffgfnaomhjgmaaGreatDoorRows
import Derived.Test.YtffgfnaomhjgmaaGreatDoorRulesSelectionsLift
set_option maxRecDepth 100000
namespace Go.Proofs.YtffgfnaomhjgmaaGreatDoor
open Go.Bvm

theorem rulesSelections_said : Rows.RulesSelectionsSaid :=
  OpenClaim.holds_of_wide 8 Tryz.f8 rfl rfl rfl rfl rfl rfl rfl ⟨rfl, rfl, rfl, rfl, rfl⟩ rfl rfl rfl rfl rfl (by kernel_rfl) Tryz.func8 (by kernel_rfl)
    (of_decide_eq_true (by kernel_rfl)) (by unfold Func.isWrapper; first | (rw [if_pos (by decide +kernel)]; kernel_rfl) | (rw [if_neg (by decide +kernel)]; exact ⟨rfl, rfl⟩))
    (fun os started H enc _ => rulesSelections_lifted os started H enc)

end Go.Proofs.YtffgfnaomhjgmaaGreatDoor
