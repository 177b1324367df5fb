/- There are inputs of the law JsonBack of which its row speaks. Conditions: none. -/
import Derived.Test.YtacpnpdggbfkgaaDoorRows
import Derived.Test.YtacpnpdggbfkgaaDoorBvm4
set_option maxRecDepth 100000
namespace Go.Proofs.YtacpnpdggbfkgaaDoor
open Go.Bvm

theorem jsonBack_laid (os : Os) (args : Array Value) : laidMetH Tryd.prog Rows.jsonBackRow.laid ((laidWorld Tryd.prog os Rows.jsonBackRow.laid).forCall (fun _ _ => 0) ⟨#[], args, []⟩).memory :=
  laidMetH_of_parts (laidMet_of_run' 8 (by kernel_rfl) (by kernel_rfl)) (by kernel_rfl)

end Go.Proofs.YtacpnpdggbfkgaaDoor
