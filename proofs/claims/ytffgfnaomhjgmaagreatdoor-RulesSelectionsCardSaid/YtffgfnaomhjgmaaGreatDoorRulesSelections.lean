/- The law RulesSelections returns true at every input, and the input reads behind the call as it did before; what its row lists is tied to the text of the program. Conditions: none. -/
import Derived.Test.YtffgfnaomhjgmaaGreatDoorRows
import Derived.Test.YtffgfnaomhjgmaaGreatDoorCards
import Derived.Test.YtffgfnaomhjgmaaGreatDoorTie
import Derived.Test.YtffgfnaomhjgmaaGreatDoorRulesSelectionsSaid
set_option maxRecDepth 100000
namespace Go.Proofs.YtffgfnaomhjgmaaGreatDoor
open Go.Bvm

theorem rulesSelections_holds : Rows.RulesSelectionsCardSaid :=
  Claim7.holds_tied_plain_at .later [] [.data, .data, .data, .handle] true (true, "17705ac0a6bea92afe78cad7f66166e348a57ee3b9c49d3dcb5626fe8ef7308e") true
    rulesSelections_said (fun _ h => by cases h) (by kernel_rfl) (fun _ h => by cases h) rulesSelections_row_tie rfl ⟨rfl, rfl⟩ (by kernel_rfl) rfl
    (fun f fn hf hfn => by
      obtain rfl : f = 8 := Option.some.inj ((show Tryz.prog.funcNamed Rows.rulesSelectionsRow.func = some 8 by kernel_rfl).symm.trans hf) |>.symm
      obtain rfl : fn = Tryz.f8 := (Option.some.inj (Tryz.func8.symm.trans hfn)).symm
      exact ⟨by kernel_rfl, fun j t ht => by
        have hp : Tryz.f8.params = #[39] := by kernel_rfl
        rw [hp] at ht
        have h3 : t = 39 := by
          rcases j with _ | j
          · simpa using ht.symm
          · simp at ht
        subst h3
        exact (show Tryz.prog.wantsStandIn 39 = false by kernel_rfl)⟩)
    (by kernel_rfl)

#print axioms rulesSelections_holds
end Go.Proofs.YtffgfnaomhjgmaaGreatDoor
