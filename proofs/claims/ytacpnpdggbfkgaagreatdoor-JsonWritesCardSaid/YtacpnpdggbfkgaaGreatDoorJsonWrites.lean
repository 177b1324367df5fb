/- The law JsonWrites returns true at every input, and the input reads behind the call as it did before; what its row lists is tied to the text of the program. Conditions: none. -/
import Derived.Test.YtacpnpdggbfkgaaGreatDoorRows
import Derived.Test.YtacpnpdggbfkgaaGreatDoorCards
import Derived.Test.YtacpnpdggbfkgaaGreatDoorTie
import Derived.Test.YtacpnpdggbfkgaaGreatDoorJsonWritesSaid
set_option maxRecDepth 100000
namespace Go.Proofs.YtacpnpdggbfkgaaGreatDoor
open Go.Bvm

theorem jsonWrites_wf : Rows.jsonWritesRow.wfByText (OpenSpec.ofChange Rows.jsonWritesSpec) = true := by kernel_rfl
theorem jsonWrites_main : Tryz.pinned.checked.prog.mainIs = some (true, "71eb35b428f59c4ba906e1a29f58754d35b40fddf877fc4c8e0bd43a315d199d".toList) := by kernel_rfl
theorem jsonWrites_looks : true = Tryz.pinned.checked.prog.looks [] := by kernel_rfl
theorem jsonWrites_params : Tryz.f3.params = #[25] := by kernel_rfl
theorem jsonWrites_stand : Tryz.pinned.checked.prog.wantsStandIn 25 = false := by kernel_rfl
theorem jsonWrites_goes : false = Rows.jsonWritesRow.goesBy Tryz.pinned.checked.prog := by kernel_rfl

theorem jsonWrites_holds : Rows.JsonWritesCardSaid :=
  Claim7.holds_tied_plain_at .later [] [.data, .data, .data, .sentinel, .sentinel] true (true, "71eb35b428f59c4ba906e1a29f58754d35b40fddf877fc4c8e0bd43a315d199d") true
    jsonWrites_said (fun _ h => by cases h) jsonWrites_wf (fun _ h => by cases h) jsonWrites_row_tie rfl ⟨rfl, rfl⟩ jsonWrites_main rfl
    (fun f fn hf hfn => by
      obtain rfl : f = 3 := Option.some.inj (jsonWrites_named.symm.trans hf) |>.symm
      obtain rfl : fn = Tryz.f3 := (Option.some.inj (Tryz.func3.symm.trans hfn)).symm
      exact ⟨jsonWrites_looks, fun j t ht => by
        rw [jsonWrites_params] at ht
        have h3 : t = 25 := by
          rcases j with _ | j
          · simpa using ht.symm
          · simp at ht
        subst h3
        exact jsonWrites_stand⟩)
    jsonWrites_goes

#print axioms jsonWrites_holds
end Go.Proofs.YtacpnpdggbfkgaaGreatDoor
