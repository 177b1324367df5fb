/- The law RulesSelections, run by the abstract machine, answers true. Conditions: none. -/
import Derived.Test.YtffgfnaomhjgmaaGreatDoorBvmLaid
import Derived.Test.YtffgfnaomhjgmaaGreatDoorTRul
set_option maxRecDepth 100000
namespace Go.Proofs.YtffgfnaomhjgmaaGreatDoor
open Go.Bvm

theorem rulesSelections_run : Go.Bvm.YtffgfnaomhjgmaaGreatDoorTRul.T8 (run Go.Bvm.YtffgfnaomhjgmaaGreatDoorTRul.tbl 80) Go.Bvm.YtffgfnaomhjgmaaGreatDoorTRul.big (.x .cons (oslArg 10) V.nil) ⟨0, t6⟩ (fun v _ => onT v fun b => b) = true := by decide +kernel

end Go.Proofs.YtffgfnaomhjgmaaGreatDoor
