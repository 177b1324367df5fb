/- The law CollectMerges returns true at every input, and the input reads behind the call as it did before; what its row lists is tied to the text of the program. Conditions: none. -/
import Derived.Test.YtjplhnnijolpnaaGreatDoorRows
import Derived.Test.YtjplhnnijolpnaaGreatDoorCards
import Derived.Test.YtjplhnnijolpnaaGreatDoorTie
import Derived.Test.YtjplhnnijolpnaaGreatDoorCollectMergesSaid
set_option maxRecDepth 100000
namespace Go.Proofs.YtjplhnnijolpnaaGreatDoor
open Go.Bvm

theorem collectMerges_holds : Rows.CollectMergesCardSaid :=
  Claim7.holds_tied_plain_at .later [] [.data, .data, .data, .handle] true (true, "e3bff522a27a42a6a8affee6865f15f5237846a7524c8a7090b935cf3003d42c") true
    collectMerges_said (fun _ h => by cases h) (by kernel_rfl) (fun _ h => by cases h) collectMerges_row_tie rfl ⟨rfl, rfl⟩ (by kernel_rfl) rfl
    (fun f fn hf hfn => by
      obtain rfl : f = 5 := Option.some.inj ((show Tryz.prog.funcNamed Rows.collectMergesRow.func = some 5 by kernel_rfl).symm.trans hf) |>.symm
      obtain rfl : fn = Tryz.f5 := (Option.some.inj (Tryz.func5.symm.trans hfn)).symm
      exact ⟨by kernel_rfl, fun j t ht => by
        have hp : Tryz.f5.params = #[34] := by kernel_rfl
        rw [hp] at ht
        have h3 : t = 34 := by
          rcases j with _ | j
          · simpa using ht.symm
          · simp at ht
        subst h3
        exact (show Tryz.prog.wantsStandIn 34 = false by kernel_rfl)⟩)
    (by kernel_rfl)

#print axioms collectMerges_holds
end Go.Proofs.YtjplhnnijolpnaaGreatDoor
