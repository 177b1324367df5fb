/- The law VarsTypes returns true at every input, and the input reads behind the call as it did before; what its row lists is tied to the text of the program. Conditions: none. -/
import Derived.Test.YtjplhnnijolpnaaGreatDoorRows
import Derived.Test.YtjplhnnijolpnaaGreatDoorCards
import Derived.Test.YtjplhnnijolpnaaGreatDoorTie
import Derived.Test.YtjplhnnijolpnaaGreatDoorVarsTypesSaid
set_option maxRecDepth 100000
namespace Go.Proofs.YtjplhnnijolpnaaGreatDoor
open Go.Bvm

theorem varsTypes_wf : Rows.varsTypesRow.wfByText (OpenSpec.ofChange Rows.varsTypesSpec) = true := by kernel_rfl
theorem varsTypes_main : Tryz.pinned.checked.prog.mainIs = some (true, "e3bff522a27a42a6a8affee6865f15f5237846a7524c8a7090b935cf3003d42c".toList) := by kernel_rfl
theorem varsTypes_looks : true = Tryz.pinned.checked.prog.looks [] := by kernel_rfl
theorem varsTypes_params : Tryz.f6.params = #[34] := by kernel_rfl
theorem varsTypes_stand : Tryz.pinned.checked.prog.wantsStandIn 34 = false := by kernel_rfl
theorem varsTypes_goes : false = Rows.varsTypesRow.goesBy Tryz.pinned.checked.prog := by kernel_rfl

theorem varsTypes_holds : Rows.VarsTypesCardSaid :=
  Claim7.holds_tied_plain_at .later [] [.data, .data, .data, .handle] true (true, "e3bff522a27a42a6a8affee6865f15f5237846a7524c8a7090b935cf3003d42c") true
    varsTypes_said (fun _ h => by cases h) varsTypes_wf (fun _ h => by cases h) varsTypes_row_tie rfl ⟨rfl, rfl⟩ varsTypes_main rfl
    (fun f fn hf hfn => by
      obtain rfl : f = 6 := Option.some.inj (varsTypes_named.symm.trans hf) |>.symm
      obtain rfl : fn = Tryz.f6 := (Option.some.inj (Tryz.func6.symm.trans hfn)).symm
      exact ⟨varsTypes_looks, fun j t ht => by
        rw [varsTypes_params] at ht
        have h3 : t = 34 := by
          rcases j with _ | j
          · simpa using ht.symm
          · simp at ht
        subst h3
        exact varsTypes_stand⟩)
    varsTypes_goes

#print axioms varsTypes_holds
end Go.Proofs.YtjplhnnijolpnaaGreatDoor
