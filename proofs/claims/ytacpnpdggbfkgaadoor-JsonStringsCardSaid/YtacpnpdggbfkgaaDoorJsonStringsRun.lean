/- The law JsonStrings, run by the abstract machine, answers true. Conditions: none. -/
import Derived.Test.YtacpnpdggbfkgaaDoorBvm4
import Derived.Test.YtacpnpdggbfkgaaDoorMJsonStringsL1
set_option maxRecDepth 100000
namespace Go.Proofs.YtacpnpdggbfkgaaDoor
open Go.Bvm

theorem jsonStrings_run : Go.Bvm.YtacpnpdggbfkgaaDoorTJ.T7 (run Go.Bvm.YtacpnpdggbfkgaaDoorMJsonStrings.tbl1 80) Go.Bvm.YtacpnpdggbfkgaaDoorTJ.big (.x .cons (oslArg 3) V.nil) ⟨0, t6⟩ (fun v _ => onT v fun b => b) = true := by decide +kernel

end Go.Proofs.YtacpnpdggbfkgaaDoor
