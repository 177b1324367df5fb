/- There are inputs of the law VarsMany of which its row speaks. Conditions: none. -/
import Derived.Test.YtjplhnnijolpnaaGreatDoorRows
import Derived.Test.YtjplhnnijolpnaaGreatDoorBvm4
set_option maxRecDepth 100000
namespace Go.Proofs.YtjplhnnijolpnaaGreatDoor
open Go.Bvm

theorem varsMany_laid (os : Os) (args : Array Value) : laidMetH Tryz.prog Rows.varsManyRow.laid ((laidWorld Tryz.prog os Rows.varsManyRow.laid).forCall (fun _ _ => 0) ⟨#[], args, []⟩).memory :=
  laidMetH_of_parts (laidMet_of_run' 8 (by kernel_rfl) (by kernel_rfl)) (by kernel_rfl)

end Go.Proofs.YtjplhnnijolpnaaGreatDoor
