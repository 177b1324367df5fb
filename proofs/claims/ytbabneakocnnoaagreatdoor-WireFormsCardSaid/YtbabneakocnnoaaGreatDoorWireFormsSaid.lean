/- The row of the law WireForms holds. Conditions: none. -/
import Derived.Test.YtbabneakocnnoaaGreatDoorRows
import Derived.Test.YtbabneakocnnoaaGreatDoorWireFormsLift
set_option maxRecDepth 100000
namespace Go.Proofs.YtbabneakocnnoaaGreatDoor
open Go.Bvm

theorem wireForms_said : Rows.WireFormsSaid :=
  OpenClaim.holds_of_wide 5 Tryz.f5 rfl rfl rfl rfl rfl rfl rfl ⟨rfl, rfl, rfl, rfl, rfl⟩ rfl rfl rfl rfl rfl (by kernel_rfl) Tryz.func5 (by kernel_rfl)
    (of_decide_eq_true (by kernel_rfl)) (by unfold Func.isWrapper; first | (rw [if_pos (by decide +kernel)]; kernel_rfl) | (rw [if_neg (by decide +kernel)]; exact ⟨rfl, rfl⟩))
    (fun os started H enc _ => wireForms_lifted os started H enc)

end Go.Proofs.YtbabneakocnnoaaGreatDoor
