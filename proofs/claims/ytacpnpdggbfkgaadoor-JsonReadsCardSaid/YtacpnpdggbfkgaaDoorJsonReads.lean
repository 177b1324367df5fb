/- The law JsonReads returns true at every input, and the input reads behind the call as it did before; what its row lists is tied to the text of the program. Conditions: none. -/
import Derived.Test.YtacpnpdggbfkgaaDoorRows
import Derived.Test.YtacpnpdggbfkgaaDoorCards
import Derived.Test.YtacpnpdggbfkgaaDoorTie
import Derived.Test.YtacpnpdggbfkgaaDoorJsonReadsSaid
set_option maxRecDepth 100000
namespace Go.Proofs.YtacpnpdggbfkgaaDoor
open Go.Bvm

theorem jsonReads_wf : Rows.jsonReadsRow.wfByText (OpenSpec.ofChange Rows.jsonReadsSpec) = true := by kernel_rfl
theorem jsonReads_main : Tryd.pinned.checked.prog.mainIs = some (true, "b0c133def0f631c93f23c5fc3ff3a9e9685f23286bd969650734295da44c5995".toList) := by kernel_rfl
theorem jsonReads_looks : false = Tryd.pinned.checked.prog.looks [] := by kernel_rfl
theorem jsonReads_params : Tryd.f3.params = #[25] := by kernel_rfl
theorem jsonReads_stand : Tryd.pinned.checked.prog.wantsStandIn 25 = false := by kernel_rfl
theorem jsonReads_goes : false = Rows.jsonReadsRow.goesBy Tryd.pinned.checked.prog := by kernel_rfl

theorem jsonReads_holds : Rows.JsonReadsCardSaid :=
  Claim7.holds_tied_plain_at .later [] [.data, .data, .data] true (true, "b0c133def0f631c93f23c5fc3ff3a9e9685f23286bd969650734295da44c5995") false
    jsonReads_said (fun _ h => by cases h) jsonReads_wf (fun _ h => by cases h) jsonReads_row_tie rfl ⟨rfl, rfl⟩ jsonReads_main rfl
    (fun f fn hf hfn => by
      obtain rfl : f = 3 := Option.some.inj (jsonReads_named.symm.trans hf) |>.symm
      obtain rfl : fn = Tryd.f3 := (Option.some.inj (Tryd.func3.symm.trans hfn)).symm
      exact ⟨jsonReads_looks, fun j t ht => by
        rw [jsonReads_params] at ht
        have h3 : t = 25 := by
          rcases j with _ | j
          · simpa using ht.symm
          · simp at ht
        subst h3
        exact jsonReads_stand⟩)
    jsonReads_goes

#print axioms jsonReads_holds
end Go.Proofs.YtacpnpdggbfkgaaDoor
