/- There are inputs of the law RulesDirectives of which its row speaks. Conditions: none. -/
import Derived.Test.YtffgfnaomhjgmaaGreatDoorRows
import Derived.Test.YtffgfnaomhjgmaaGreatDoorBvmLaid
set_option maxRecDepth 100000
namespace Go.Proofs.YtffgfnaomhjgmaaGreatDoor
open Go.Bvm

theorem rulesDirectives_laid (os : Os) (args : Array Value) : laidMetH Tryz.prog Rows.rulesDirectivesRow.laid ((laidWorld Tryz.prog os Rows.rulesDirectivesRow.laid).forCall (fun _ _ => 0) ⟨#[], args, []⟩).memory :=
  laidMetH_of_parts (laidMet_of_run' 8 (by kernel_rfl) (by kernel_rfl)) (by kernel_rfl)

end Go.Proofs.YtffgfnaomhjgmaaGreatDoor
