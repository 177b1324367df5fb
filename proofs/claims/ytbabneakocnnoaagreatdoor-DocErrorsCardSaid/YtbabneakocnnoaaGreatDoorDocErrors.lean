/- The law DocErrors returns true at every input, and the input reads behind the call as it did before; what its row lists is tied to the text of the program. Conditions: none. -/
import Derived.Test.YtbabneakocnnoaaGreatDoorRows
import Derived.Test.YtbabneakocnnoaaGreatDoorCards
import Derived.Test.YtbabneakocnnoaaGreatDoorTie
import Derived.Test.YtbabneakocnnoaaGreatDoorDocErrorsSaid
set_option maxRecDepth 100000
namespace Go.Proofs.YtbabneakocnnoaaGreatDoor
open Go.Bvm

theorem docErrors_wf : Rows.docErrorsRow.wfByText (OpenSpec.ofChange Rows.docErrorsSpec) = true := by kernel_rfl
theorem docErrors_main : Tryz.pinned.checked.prog.mainIs = some (true, "fb9bc430a8c3d1ec3cf5c583afd2f6f433d50b6defc10efd5610a60ea74336c1".toList) := by kernel_rfl
theorem docErrors_looks : true = Tryz.pinned.checked.prog.looks [] := by kernel_rfl
theorem docErrors_params : Tryz.f3.params = #[28] := by kernel_rfl
theorem docErrors_stand : Tryz.pinned.checked.prog.wantsStandIn 28 = false := by kernel_rfl
theorem docErrors_goes : false = Rows.docErrorsRow.goesBy Tryz.pinned.checked.prog := by kernel_rfl

theorem docErrors_holds : Rows.DocErrorsCardSaid :=
  Claim7.holds_tied_plain_at .later [] [.data, .data, .data, .handle] true (true, "fb9bc430a8c3d1ec3cf5c583afd2f6f433d50b6defc10efd5610a60ea74336c1") true
    docErrors_said (fun _ h => by cases h) docErrors_wf (fun _ h => by cases h) docErrors_row_tie rfl ⟨rfl, rfl⟩ docErrors_main rfl
    (fun f fn hf hfn => by
      obtain rfl : f = 3 := Option.some.inj (docErrors_named.symm.trans hf) |>.symm
      obtain rfl : fn = Tryz.f3 := (Option.some.inj (Tryz.func3.symm.trans hfn)).symm
      exact ⟨docErrors_looks, fun j t ht => by
        rw [docErrors_params] at ht
        have h3 : t = 28 := by
          rcases j with _ | j
          · simpa using ht.symm
          · simp at ht
        subst h3
        exact docErrors_stand⟩)
    docErrors_goes

#print axioms docErrors_holds
end Go.Proofs.YtbabneakocnnoaaGreatDoor
