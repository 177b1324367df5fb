/- The law JsonDeep, run by the abstract machine, answers true. Conditions: none. -/
import Derived.Test.YtacpnpdggbfkgaaDoorBvm4
import Derived.Test.YtacpnpdggbfkgaaDoorMJsonDeepL2
set_option maxRecDepth 100000
namespace Go.Proofs.YtacpnpdggbfkgaaDoor
open Go.Bvm

theorem jsonDeep_run : Go.Bvm.YtacpnpdggbfkgaaDoorTJ.T6 (run Go.Bvm.YtacpnpdggbfkgaaDoorMJsonDeep.tbl2 80) Go.Bvm.YtacpnpdggbfkgaaDoorTJ.big (.x .cons (oslArg 3) V.nil) ⟨0, t6⟩ (fun v _ => onT v fun b => b) = true := by decide +kernel

end Go.Proofs.YtacpnpdggbfkgaaDoor
