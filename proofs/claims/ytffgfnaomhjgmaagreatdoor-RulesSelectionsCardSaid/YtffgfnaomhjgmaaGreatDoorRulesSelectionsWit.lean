/- There are inputs of the law RulesSelections of which its row speaks. Conditions: none. -/
import Derived.Test.YtffgfnaomhjgmaaGreatDoorRows
import Derived.Test.YtffgfnaomhjgmaaGreatDoorBvmLaid
set_option maxRecDepth 100000
namespace Go.Proofs.YtffgfnaomhjgmaaGreatDoor
open Go.Bvm

theorem rulesSelections_laid (os : Os) (args : Array Value) : laidMetH Tryz.prog Rows.rulesSelectionsRow.laid ((laidWorld Tryz.prog os Rows.rulesSelectionsRow.laid).forCall (fun _ _ => 0) ⟨#[], args, []⟩).memory :=
  laidMetH_of_parts (laidMet_of_run' 8 (by kernel_rfl) (by kernel_rfl)) (by kernel_rfl)

end Go.Proofs.YtffgfnaomhjgmaaGreatDoor
