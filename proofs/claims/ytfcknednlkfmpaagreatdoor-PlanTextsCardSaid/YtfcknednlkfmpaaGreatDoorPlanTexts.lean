/- The law PlanTexts returns true at every input, and the input reads behind the call as it did before; what its row lists is tied to the text of the program. Conditions: none. -/
import Derived.Test.YtfcknednlkfmpaaGreatDoorRows
import Derived.Test.YtfcknednlkfmpaaGreatDoorCards
import Derived.Test.YtfcknednlkfmpaaGreatDoorTie
import Derived.Test.YtfcknednlkfmpaaGreatDoorPlanTextsSaid
set_option maxRecDepth 100000
namespace Go.Proofs.YtfcknednlkfmpaaGreatDoor
open Go.Bvm

theorem planTexts_wf : Rows.planTextsRow.wfByText (OpenSpec.ofChange Rows.planTextsSpec) = true := by kernel_rfl
theorem planTexts_main : Tryz.pinned.checked.prog.mainIs = some (true, "eec50938c8966fd840bd1645b5d496282e113507b2f99af275e0bd4022288d9e".toList) := by kernel_rfl
theorem planTexts_looks : true = Tryz.pinned.checked.prog.looks [] := by kernel_rfl
theorem planTexts_params : Tryz.f3.params = #[39] := by kernel_rfl
theorem planTexts_stand : Tryz.pinned.checked.prog.wantsStandIn 39 = false := by kernel_rfl
theorem planTexts_goes : false = Rows.planTextsRow.goesBy Tryz.pinned.checked.prog := by kernel_rfl

theorem planTexts_holds : Rows.PlanTextsCardSaid :=
  Claim7.holds_tied_plain_at .later [] [.data, .data, .data, .handle] true (true, "eec50938c8966fd840bd1645b5d496282e113507b2f99af275e0bd4022288d9e") true
    planTexts_said (fun _ h => by cases h) planTexts_wf (fun _ h => by cases h) planTexts_row_tie rfl ⟨rfl, rfl⟩ planTexts_main rfl
    (fun f fn hf hfn => by
      obtain rfl : f = 3 := Option.some.inj (planTexts_named.symm.trans hf) |>.symm
      obtain rfl : fn = Tryz.f3 := (Option.some.inj (Tryz.func3.symm.trans hfn)).symm
      exact ⟨planTexts_looks, fun j t ht => by
        rw [planTexts_params] at ht
        have h3 : t = 39 := by
          rcases j with _ | j
          · simpa using ht.symm
          · simp at ht
        subst h3
        exact planTexts_stand⟩)
    planTexts_goes

#print axioms planTexts_holds
end Go.Proofs.YtfcknednlkfmpaaGreatDoor
