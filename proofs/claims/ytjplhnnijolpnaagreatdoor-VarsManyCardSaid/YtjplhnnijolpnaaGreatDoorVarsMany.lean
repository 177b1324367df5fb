/- The law VarsMany returns true at every input, and the input reads behind the call as it did before; what its row lists is tied to the text of the program. Conditions: none. -/
import Derived.Test.YtjplhnnijolpnaaGreatDoorRows
import Derived.Test.YtjplhnnijolpnaaGreatDoorCards
import Derived.Test.YtjplhnnijolpnaaGreatDoorTie
import Derived.Test.YtjplhnnijolpnaaGreatDoorVarsManySaid
set_option maxRecDepth 100000
namespace Go.Proofs.YtjplhnnijolpnaaGreatDoor
open Go.Bvm

theorem varsMany_wf : Rows.varsManyRow.wfByText (OpenSpec.ofChange Rows.varsManySpec) = true := by kernel_rfl
theorem varsMany_main : Tryz.pinned.checked.prog.mainIs = some (true, "e3bff522a27a42a6a8affee6865f15f5237846a7524c8a7090b935cf3003d42c".toList) := by kernel_rfl
theorem varsMany_looks : true = Tryz.pinned.checked.prog.looks [] := by kernel_rfl
theorem varsMany_params : Tryz.f7.params = #[34] := by kernel_rfl
theorem varsMany_stand : Tryz.pinned.checked.prog.wantsStandIn 34 = false := by kernel_rfl
theorem varsMany_goes : false = Rows.varsManyRow.goesBy Tryz.pinned.checked.prog := by kernel_rfl

theorem varsMany_holds : Rows.VarsManyCardSaid :=
  Claim7.holds_tied_plain_at .later [] [.data, .data, .data, .handle] true (true, "e3bff522a27a42a6a8affee6865f15f5237846a7524c8a7090b935cf3003d42c") true
    varsMany_said (fun _ h => by cases h) varsMany_wf (fun _ h => by cases h) varsMany_row_tie rfl ⟨rfl, rfl⟩ varsMany_main rfl
    (fun f fn hf hfn => by
      obtain rfl : f = 7 := Option.some.inj (varsMany_named.symm.trans hf) |>.symm
      obtain rfl : fn = Tryz.f7 := (Option.some.inj (Tryz.func7.symm.trans hfn)).symm
      exact ⟨varsMany_looks, fun j t ht => by
        rw [varsMany_params] at ht
        have h3 : t = 34 := by
          rcases j with _ | j
          · simpa using ht.symm
          · simp at ht
        subst h3
        exact varsMany_stand⟩)
    varsMany_goes

#print axioms varsMany_holds
end Go.Proofs.YtjplhnnijolpnaaGreatDoor
