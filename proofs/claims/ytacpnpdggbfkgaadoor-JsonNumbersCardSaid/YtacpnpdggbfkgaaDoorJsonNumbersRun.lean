/- The law JsonNumbers, run by the abstract machine, answers true. Conditions: none. -/
import Derived.Test.YtacpnpdggbfkgaaDoorBvmLaid
import Derived.Test.YtacpnpdggbfkgaaDoorTJ
set_option maxRecDepth 100000
namespace Go.Proofs.YtacpnpdggbfkgaaDoor
open Go.Bvm

theorem jsonNumbers_run : Go.Bvm.YtacpnpdggbfkgaaDoorTJ.T5 (run Go.Bvm.YtacpnpdggbfkgaaDoorTJ.tbl 80) Go.Bvm.YtacpnpdggbfkgaaDoorTJ.big (.x .cons (oslArg 3) V.nil) ⟨0, t6⟩ (fun v _ => onT v fun b => b) = true := by decide +kernel

end Go.Proofs.YtacpnpdggbfkgaaDoor
