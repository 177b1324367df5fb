/- The law JsonDeep returns true at every input, and the input reads behind the call as it did before; what its row lists is tied to the text of the program. Conditions: none. -/
import Derived.Test.YtacpnpdggbfkgaaDoorRows
import Derived.Test.YtacpnpdggbfkgaaDoorCards
import Derived.Test.YtacpnpdggbfkgaaDoorTie
import Derived.Test.YtacpnpdggbfkgaaDoorJsonDeepSaid
set_option maxRecDepth 100000
namespace Go.Proofs.YtacpnpdggbfkgaaDoor
open Go.Bvm

theorem jsonDeep_wf : Rows.jsonDeepRow.wfByText (OpenSpec.ofChange Rows.jsonDeepSpec) = true := by kernel_rfl
theorem jsonDeep_main : Tryd.pinned.checked.prog.mainIs = some (true, "b0c133def0f631c93f23c5fc3ff3a9e9685f23286bd969650734295da44c5995".toList) := by kernel_rfl
theorem jsonDeep_looks : false = Tryd.pinned.checked.prog.looks [] := by kernel_rfl
theorem jsonDeep_params : Tryd.f6.params = #[25] := by kernel_rfl
theorem jsonDeep_stand : Tryd.pinned.checked.prog.wantsStandIn 25 = false := by kernel_rfl
theorem jsonDeep_goes : false = Rows.jsonDeepRow.goesBy Tryd.pinned.checked.prog := by kernel_rfl

theorem jsonDeep_holds : Rows.JsonDeepCardSaid :=
  Claim7.holds_tied_plain_at .later [] [.data, .data, .data] true (true, "b0c133def0f631c93f23c5fc3ff3a9e9685f23286bd969650734295da44c5995") false
    jsonDeep_said (fun _ h => by cases h) jsonDeep_wf (fun _ h => by cases h) jsonDeep_row_tie rfl ⟨rfl, rfl⟩ jsonDeep_main rfl
    (fun f fn hf hfn => by
      obtain rfl : f = 6 := Option.some.inj (jsonDeep_named.symm.trans hf) |>.symm
      obtain rfl : fn = Tryd.f6 := (Option.some.inj (Tryd.func6.symm.trans hfn)).symm
      exact ⟨jsonDeep_looks, fun j t ht => by
        rw [jsonDeep_params] at ht
        have h3 : t = 25 := by
          rcases j with _ | j
          · simpa using ht.symm
          · simp at ht
        subst h3
        exact jsonDeep_stand⟩)
    jsonDeep_goes

#print axioms jsonDeep_holds
end Go.Proofs.YtacpnpdggbfkgaaDoor
