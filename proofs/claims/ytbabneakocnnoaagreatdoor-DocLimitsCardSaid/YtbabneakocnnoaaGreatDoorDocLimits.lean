/- The law DocLimits returns true at every input, and the input reads behind the call as it did before; what its row lists is tied to the text of the program. Conditions: none. -/
import Derived.Test.YtbabneakocnnoaaGreatDoorRows
import Derived.Test.YtbabneakocnnoaaGreatDoorCards
import Derived.Test.YtbabneakocnnoaaGreatDoorTie
import Derived.Test.YtbabneakocnnoaaGreatDoorDocLimitsSaid
set_option maxRecDepth 100000
namespace Go.Proofs.YtbabneakocnnoaaGreatDoor
open Go.Bvm

theorem docLimits_wf : Rows.docLimitsRow.wfByText (OpenSpec.ofChange Rows.docLimitsSpec) = true := by kernel_rfl
theorem docLimits_main : Tryz.pinned.checked.prog.mainIs = some (true, "fb9bc430a8c3d1ec3cf5c583afd2f6f433d50b6defc10efd5610a60ea74336c1".toList) := by kernel_rfl
theorem docLimits_looks : true = Tryz.pinned.checked.prog.looks [] := by kernel_rfl
theorem docLimits_params : Tryz.f4.params = #[28] := by kernel_rfl
theorem docLimits_stand : Tryz.pinned.checked.prog.wantsStandIn 28 = false := by kernel_rfl
theorem docLimits_goes : false = Rows.docLimitsRow.goesBy Tryz.pinned.checked.prog := by kernel_rfl

theorem docLimits_holds : Rows.DocLimitsCardSaid :=
  Claim7.holds_tied_plain_at .later [] [.data, .data, .data, .handle] true (true, "fb9bc430a8c3d1ec3cf5c583afd2f6f433d50b6defc10efd5610a60ea74336c1") true
    docLimits_said (fun _ h => by cases h) docLimits_wf (fun _ h => by cases h) docLimits_row_tie rfl ⟨rfl, rfl⟩ docLimits_main rfl
    (fun f fn hf hfn => by
      obtain rfl : f = 4 := Option.some.inj (docLimits_named.symm.trans hf) |>.symm
      obtain rfl : fn = Tryz.f4 := (Option.some.inj (Tryz.func4.symm.trans hfn)).symm
      exact ⟨docLimits_looks, fun j t ht => by
        rw [docLimits_params] at ht
        have h3 : t = 28 := by
          rcases j with _ | j
          · simpa using ht.symm
          · simp at ht
        subst h3
        exact docLimits_stand⟩)
    docLimits_goes

#print axioms docLimits_holds
end Go.Proofs.YtbabneakocnnoaaGreatDoor
