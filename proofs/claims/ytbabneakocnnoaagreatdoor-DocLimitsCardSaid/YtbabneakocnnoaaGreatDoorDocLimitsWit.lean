/- There are inputs of the law DocLimits of which its row speaks. Conditions: none. -/
import Derived.Test.YtbabneakocnnoaaGreatDoorRows
import Derived.Test.YtbabneakocnnoaaGreatDoorBvm4
set_option maxRecDepth 100000
namespace Go.Proofs.YtbabneakocnnoaaGreatDoor
open Go.Bvm

theorem docLimits_laid (os : Os) (args : Array Value) : laidMetH Tryz.prog Rows.docLimitsRow.laid ((laidWorld Tryz.prog os Rows.docLimitsRow.laid).forCall (fun _ _ => 0) ⟨#[], args, []⟩).memory :=
  laidMetH_of_parts (laidMet_of_run' 8 (by kernel_rfl) (by kernel_rfl)) (by kernel_rfl)

end Go.Proofs.YtbabneakocnnoaaGreatDoor
