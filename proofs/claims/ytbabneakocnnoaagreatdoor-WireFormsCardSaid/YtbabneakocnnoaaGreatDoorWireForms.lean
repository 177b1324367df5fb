/- The law WireForms returns true at every input, and the input reads behind the call as it did before; what its row lists is tied to the text of the program. Conditions: none. -/
import Derived.Test.YtbabneakocnnoaaGreatDoorRows
import Derived.Test.YtbabneakocnnoaaGreatDoorCards
import Derived.Test.YtbabneakocnnoaaGreatDoorTie
import Derived.Test.YtbabneakocnnoaaGreatDoorWireFormsSaid
set_option maxRecDepth 100000
namespace Go.Proofs.YtbabneakocnnoaaGreatDoor
open Go.Bvm

theorem wireForms_holds : Rows.WireFormsCardSaid :=
  Claim7.holds_tied_plain_at .later [] [.data, .data, .data] true (true, "fb9bc430a8c3d1ec3cf5c583afd2f6f433d50b6defc10efd5610a60ea74336c1") true
    wireForms_said (fun _ h => by cases h) (by kernel_rfl) (fun _ h => by cases h) wireForms_row_tie rfl ⟨rfl, rfl⟩ (by kernel_rfl) rfl
    (fun f fn hf hfn => by
      obtain rfl : f = 5 := Option.some.inj ((show Tryz.prog.funcNamed Rows.wireFormsRow.func = some 5 by kernel_rfl).symm.trans hf) |>.symm
      obtain rfl : fn = Tryz.f5 := (Option.some.inj (Tryz.func5.symm.trans hfn)).symm
      exact ⟨by kernel_rfl, fun j t ht => by
        have hp : Tryz.f5.params = #[36] := by kernel_rfl
        rw [hp] at ht
        have h3 : t = 36 := by
          rcases j with _ | j
          · simpa using ht.symm
          · simp at ht
        subst h3
        exact (show Tryz.prog.wantsStandIn 36 = false by kernel_rfl)⟩)
    (by kernel_rfl)

#print axioms wireForms_holds
end Go.Proofs.YtbabneakocnnoaaGreatDoor
