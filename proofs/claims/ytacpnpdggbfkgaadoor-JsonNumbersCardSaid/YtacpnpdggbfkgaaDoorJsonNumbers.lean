/- The law JsonNumbers returns true at every input, and the input reads behind the call as it did before; what its row lists is tied to the text of the program. Conditions: none. -/
import Derived.Test.YtacpnpdggbfkgaaDoorRows
import Derived.Test.YtacpnpdggbfkgaaDoorCards
import Derived.Test.YtacpnpdggbfkgaaDoorTie
import Derived.Test.YtacpnpdggbfkgaaDoorJsonNumbersSaid
set_option maxRecDepth 100000
namespace Go.Proofs.YtacpnpdggbfkgaaDoor
open Go.Bvm

theorem jsonNumbers_wf : Rows.jsonNumbersRow.wfByText (OpenSpec.ofChange Rows.jsonNumbersSpec) = true := by kernel_rfl
theorem jsonNumbers_main : Tryd.pinned.checked.prog.mainIs = some (true, "b0c133def0f631c93f23c5fc3ff3a9e9685f23286bd969650734295da44c5995".toList) := by kernel_rfl
theorem jsonNumbers_looks : false = Tryd.pinned.checked.prog.looks [] := by kernel_rfl
theorem jsonNumbers_params : Tryd.f5.params = #[25] := by kernel_rfl
theorem jsonNumbers_stand : Tryd.pinned.checked.prog.wantsStandIn 25 = false := by kernel_rfl
theorem jsonNumbers_goes : false = Rows.jsonNumbersRow.goesBy Tryd.pinned.checked.prog := by kernel_rfl

theorem jsonNumbers_holds : Rows.JsonNumbersCardSaid :=
  Claim7.holds_tied_plain_at .later [] [.data, .data, .data] true (true, "b0c133def0f631c93f23c5fc3ff3a9e9685f23286bd969650734295da44c5995") false
    jsonNumbers_said (fun _ h => by cases h) jsonNumbers_wf (fun _ h => by cases h) jsonNumbers_row_tie rfl ⟨rfl, rfl⟩ jsonNumbers_main rfl
    (fun f fn hf hfn => by
      obtain rfl : f = 5 := Option.some.inj (jsonNumbers_named.symm.trans hf) |>.symm
      obtain rfl : fn = Tryd.f5 := (Option.some.inj (Tryd.func5.symm.trans hfn)).symm
      exact ⟨jsonNumbers_looks, fun j t ht => by
        rw [jsonNumbers_params] at ht
        have h3 : t = 25 := by
          rcases j with _ | j
          · simpa using ht.symm
          · simp at ht
        subst h3
        exact jsonNumbers_stand⟩)
    jsonNumbers_goes

#print axioms jsonNumbers_holds
end Go.Proofs.YtacpnpdggbfkgaaDoor
