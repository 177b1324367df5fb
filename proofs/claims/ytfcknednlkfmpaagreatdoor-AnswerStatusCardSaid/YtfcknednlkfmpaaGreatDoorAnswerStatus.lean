/- The law AnswerStatus returns true at every input, and the input reads behind the call as it did before; what its row lists is tied to the text of the program. Conditions: none. -/
import Derived.Test.YtfcknednlkfmpaaGreatDoorRows
import Derived.Test.YtfcknednlkfmpaaGreatDoorCards
import Derived.Test.YtfcknednlkfmpaaGreatDoorTie
import Derived.Test.YtfcknednlkfmpaaGreatDoorAnswerStatusSaid
set_option maxRecDepth 100000
namespace Go.Proofs.YtfcknednlkfmpaaGreatDoor
open Go.Bvm

theorem answerStatus_wf : Rows.answerStatusRow.wfByText (OpenSpec.ofChange Rows.answerStatusSpec) = true := by kernel_rfl
theorem answerStatus_main : Tryz.pinned.checked.prog.mainIs = some (true, "eec50938c8966fd840bd1645b5d496282e113507b2f99af275e0bd4022288d9e".toList) := by kernel_rfl
theorem answerStatus_looks : true = Tryz.pinned.checked.prog.looks [] := by kernel_rfl
theorem answerStatus_params : Tryz.f6.params = #[45] := by kernel_rfl
theorem answerStatus_stand : Tryz.pinned.checked.prog.wantsStandIn 45 = false := by kernel_rfl
theorem answerStatus_goes : false = Rows.answerStatusRow.goesBy Tryz.pinned.checked.prog := by kernel_rfl

theorem answerStatus_holds : Rows.AnswerStatusCardSaid :=
  Claim7.holds_tied_plain_at .later [] [.data, .data, .data, .handle] true (true, "eec50938c8966fd840bd1645b5d496282e113507b2f99af275e0bd4022288d9e") true
    answerStatus_said (fun _ h => by cases h) answerStatus_wf (fun _ h => by cases h) answerStatus_row_tie rfl ⟨rfl, rfl⟩ answerStatus_main rfl
    (fun f fn hf hfn => by
      obtain rfl : f = 6 := Option.some.inj (answerStatus_named.symm.trans hf) |>.symm
      obtain rfl : fn = Tryz.f6 := (Option.some.inj (Tryz.func6.symm.trans hfn)).symm
      exact ⟨answerStatus_looks, fun j t ht => by
        rw [answerStatus_params] at ht
        have h3 : t = 45 := by
          rcases j with _ | j
          · simpa using ht.symm
          · simp at ht
        subst h3
        exact answerStatus_stand⟩)
    answerStatus_goes

#print axioms answerStatus_holds
end Go.Proofs.YtfcknednlkfmpaaGreatDoor
