/- The law CollectSkips returns true at every input, and the input reads behind the call as it did before; what its row lists is tied to the text of the program. Conditions: none. -/
import Derived.Test.YtjplhnnijolpnaaGreatDoorRows
import Derived.Test.YtjplhnnijolpnaaGreatDoorCards
import Derived.Test.YtjplhnnijolpnaaGreatDoorTie
import Derived.Test.YtjplhnnijolpnaaGreatDoorCollectSkipsSaid
set_option maxRecDepth 100000
namespace Go.Proofs.YtjplhnnijolpnaaGreatDoor
open Go.Bvm

theorem collectSkips_holds : Rows.CollectSkipsCardSaid :=
  Claim7.holds_tied_plain_at .later [] [.data, .data, .data, .handle] true (true, "e3bff522a27a42a6a8affee6865f15f5237846a7524c8a7090b935cf3003d42c") true
    collectSkips_said (fun _ h => by cases h) (by kernel_rfl) (fun _ h => by cases h) collectSkips_row_tie rfl ⟨rfl, rfl⟩ (by kernel_rfl) rfl
    (fun f fn hf hfn => by
      obtain rfl : f = 3 := Option.some.inj ((show Tryz.prog.funcNamed Rows.collectSkipsRow.func = some 3 by kernel_rfl).symm.trans hf) |>.symm
      obtain rfl : fn = Tryz.f3 := (Option.some.inj (Tryz.func3.symm.trans hfn)).symm
      exact ⟨by kernel_rfl, fun j t ht => by
        have hp : Tryz.f3.params = #[34] := by kernel_rfl
        rw [hp] at ht
        have h3 : t = 34 := by
          rcases j with _ | j
          · simpa using ht.symm
          · simp at ht
        subst h3
        exact (show Tryz.prog.wantsStandIn 34 = false by kernel_rfl)⟩)
    (by kernel_rfl)

#print axioms collectSkips_holds
end Go.Proofs.YtjplhnnijolpnaaGreatDoor
