/- The law PlanLimits returns true at every input, and the input reads behind the call as it did before; what its row lists is tied to the text of the program. Conditions: none. -/
import Derived.Test.YtfcknednlkfmpaaGreatDoorRows
import Derived.Test.YtfcknednlkfmpaaGreatDoorCards
import Derived.Test.YtfcknednlkfmpaaGreatDoorTie
import Derived.Test.YtfcknednlkfmpaaGreatDoorPlanLimitsSaid
set_option maxRecDepth 100000
namespace Go.Proofs.YtfcknednlkfmpaaGreatDoor
open Go.Bvm

theorem planLimits_wf : Rows.planLimitsRow.wfByText (OpenSpec.ofChange Rows.planLimitsSpec) = true := by kernel_rfl
theorem planLimits_main : Tryz.pinned.checked.prog.mainIs = some (true, "eec50938c8966fd840bd1645b5d496282e113507b2f99af275e0bd4022288d9e".toList) := by kernel_rfl
theorem planLimits_looks : true = Tryz.pinned.checked.prog.looks [] := by kernel_rfl
theorem planLimits_params : Tryz.f4.params = #[39] := by kernel_rfl
theorem planLimits_stand : Tryz.pinned.checked.prog.wantsStandIn 39 = false := by kernel_rfl
theorem planLimits_goes : false = Rows.planLimitsRow.goesBy Tryz.pinned.checked.prog := by kernel_rfl

theorem planLimits_holds : Rows.PlanLimitsCardSaid :=
  Claim7.holds_tied_plain_at .later [] [.data, .data, .data, .handle] true (true, "eec50938c8966fd840bd1645b5d496282e113507b2f99af275e0bd4022288d9e") true
    planLimits_said (fun _ h => by cases h) planLimits_wf (fun _ h => by cases h) planLimits_row_tie rfl ⟨rfl, rfl⟩ planLimits_main rfl
    (fun f fn hf hfn => by
      obtain rfl : f = 4 := Option.some.inj (planLimits_named.symm.trans hf) |>.symm
      obtain rfl : fn = Tryz.f4 := (Option.some.inj (Tryz.func4.symm.trans hfn)).symm
      exact ⟨planLimits_looks, fun j t ht => by
        rw [planLimits_params] at ht
        have h3 : t = 39 := by
          rcases j with _ | j
          · simpa using ht.symm
          · simp at ht
        subst h3
        exact planLimits_stand⟩)
    planLimits_goes

#print axioms planLimits_holds
end Go.Proofs.YtfcknednlkfmpaaGreatDoor
