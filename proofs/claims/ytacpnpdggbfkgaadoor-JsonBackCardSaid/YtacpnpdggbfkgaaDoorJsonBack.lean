/- The law JsonBack returns true at every input, and the input reads behind the call as it did before; what its row lists is tied to the text of the program. Conditions: none. -/
import Derived.Test.YtacpnpdggbfkgaaDoorRows
import Derived.Test.YtacpnpdggbfkgaaDoorCards
import Derived.Test.YtacpnpdggbfkgaaDoorTie
import Derived.Test.YtacpnpdggbfkgaaDoorJsonBackSaid
set_option maxRecDepth 100000
namespace Go.Proofs.YtacpnpdggbfkgaaDoor
open Go.Bvm

theorem jsonBack_wf : Rows.jsonBackRow.wfByText (OpenSpec.ofChange Rows.jsonBackSpec) = true := by kernel_rfl
theorem jsonBack_main : Tryd.pinned.checked.prog.mainIs = some (true, "b0c133def0f631c93f23c5fc3ff3a9e9685f23286bd969650734295da44c5995".toList) := by kernel_rfl
theorem jsonBack_looks : false = Tryd.pinned.checked.prog.looks [] := by kernel_rfl
theorem jsonBack_params : Tryd.f4.params = #[25] := by kernel_rfl
theorem jsonBack_stand : Tryd.pinned.checked.prog.wantsStandIn 25 = false := by kernel_rfl
theorem jsonBack_goes : false = Rows.jsonBackRow.goesBy Tryd.pinned.checked.prog := by kernel_rfl

theorem jsonBack_holds : Rows.JsonBackCardSaid :=
  Claim7.holds_tied_plain_at .later [] [.data, .data, .data] true (true, "b0c133def0f631c93f23c5fc3ff3a9e9685f23286bd969650734295da44c5995") false
    jsonBack_said (fun _ h => by cases h) jsonBack_wf (fun _ h => by cases h) jsonBack_row_tie rfl ⟨rfl, rfl⟩ jsonBack_main rfl
    (fun f fn hf hfn => by
      obtain rfl : f = 4 := Option.some.inj (jsonBack_named.symm.trans hf) |>.symm
      obtain rfl : fn = Tryd.f4 := (Option.some.inj (Tryd.func4.symm.trans hfn)).symm
      exact ⟨jsonBack_looks, fun j t ht => by
        rw [jsonBack_params] at ht
        have h3 : t = 25 := by
          rcases j with _ | j
          · simpa using ht.symm
          · simp at ht
        subst h3
        exact jsonBack_stand⟩)
    jsonBack_goes

#print axioms jsonBack_holds
end Go.Proofs.YtacpnpdggbfkgaaDoor
