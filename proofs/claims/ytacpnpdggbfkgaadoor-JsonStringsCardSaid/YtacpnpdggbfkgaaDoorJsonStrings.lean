/- The law JsonStrings returns true at every input, and the input reads behind the call as it did before; what its row lists is tied to the text of the program. Conditions: none. -/
import Derived.Test.YtacpnpdggbfkgaaDoorRows
import Derived.Test.YtacpnpdggbfkgaaDoorCards
import Derived.Test.YtacpnpdggbfkgaaDoorTie
import Derived.Test.YtacpnpdggbfkgaaDoorJsonStringsSaid
set_option maxRecDepth 100000
namespace Go.Proofs.YtacpnpdggbfkgaaDoor
open Go.Bvm

theorem jsonStrings_wf : Rows.jsonStringsRow.wfByText (OpenSpec.ofChange Rows.jsonStringsSpec) = true := by kernel_rfl
theorem jsonStrings_main : Tryd.pinned.checked.prog.mainIs = some (true, "b0c133def0f631c93f23c5fc3ff3a9e9685f23286bd969650734295da44c5995".toList) := by kernel_rfl
theorem jsonStrings_looks : false = Tryd.pinned.checked.prog.looks [] := by kernel_rfl
theorem jsonStrings_params : Tryd.f7.params = #[25] := by kernel_rfl
theorem jsonStrings_stand : Tryd.pinned.checked.prog.wantsStandIn 25 = false := by kernel_rfl
theorem jsonStrings_goes : false = Rows.jsonStringsRow.goesBy Tryd.pinned.checked.prog := by kernel_rfl

theorem jsonStrings_holds : Rows.JsonStringsCardSaid :=
  Claim7.holds_tied_plain_at .later [] [.data, .data, .data] true (true, "b0c133def0f631c93f23c5fc3ff3a9e9685f23286bd969650734295da44c5995") false
    jsonStrings_said (fun _ h => by cases h) jsonStrings_wf (fun _ h => by cases h) jsonStrings_row_tie rfl ⟨rfl, rfl⟩ jsonStrings_main rfl
    (fun f fn hf hfn => by
      obtain rfl : f = 7 := Option.some.inj (jsonStrings_named.symm.trans hf) |>.symm
      obtain rfl : fn = Tryd.f7 := (Option.some.inj (Tryd.func7.symm.trans hfn)).symm
      exact ⟨jsonStrings_looks, fun j t ht => by
        rw [jsonStrings_params] at ht
        have h3 : t = 25 := by
          rcases j with _ | j
          · simpa using ht.symm
          · simp at ht
        subst h3
        exact jsonStrings_stand⟩)
    jsonStrings_goes

#print axioms jsonStrings_holds
end Go.Proofs.YtacpnpdggbfkgaaDoor
