/- The law AnswerLong returns true at every input, and the input reads behind the call as it did before; what its row lists is tied to the text of the program. Conditions: none. -/
import Derived.Test.YtfcknednlkfmpaaGreatDoorRows
import Derived.Test.YtfcknednlkfmpaaGreatDoorCards
import Derived.Test.YtfcknednlkfmpaaGreatDoorTie
import Derived.Test.YtfcknednlkfmpaaGreatDoorAnswerLongSaid
set_option maxRecDepth 100000
namespace Go.Proofs.YtfcknednlkfmpaaGreatDoor
open Go.Bvm

theorem answerLong_wf : Rows.answerLongRow.wfByText (OpenSpec.ofChange Rows.answerLongSpec) = true := by kernel_rfl
theorem answerLong_main : Tryz.pinned.checked.prog.mainIs = some (true, "eec50938c8966fd840bd1645b5d496282e113507b2f99af275e0bd4022288d9e".toList) := by kernel_rfl
theorem answerLong_looks : true = Tryz.pinned.checked.prog.looks [] := by kernel_rfl
theorem answerLong_params : Tryz.f5.params = #[45] := by kernel_rfl
theorem answerLong_stand : Tryz.pinned.checked.prog.wantsStandIn 45 = false := by kernel_rfl
theorem answerLong_goes : false = Rows.answerLongRow.goesBy Tryz.pinned.checked.prog := by kernel_rfl

theorem answerLong_holds : Rows.AnswerLongCardSaid :=
  Claim7.holds_tied_plain_at .later [] [.data, .data, .data, .handle] true (true, "eec50938c8966fd840bd1645b5d496282e113507b2f99af275e0bd4022288d9e") true
    answerLong_said (fun _ h => by cases h) answerLong_wf (fun _ h => by cases h) answerLong_row_tie rfl ⟨rfl, rfl⟩ answerLong_main rfl
    (fun f fn hf hfn => by
      obtain rfl : f = 5 := Option.some.inj (answerLong_named.symm.trans hf) |>.symm
      obtain rfl : fn = Tryz.f5 := (Option.some.inj (Tryz.func5.symm.trans hfn)).symm
      exact ⟨answerLong_looks, fun j t ht => by
        rw [answerLong_params] at ht
        have h3 : t = 45 := by
          rcases j with _ | j
          · simpa using ht.symm
          · simp at ht
        subst h3
        exact answerLong_stand⟩)
    answerLong_goes

#print axioms answerLong_holds
end Go.Proofs.YtfcknednlkfmpaaGreatDoor
