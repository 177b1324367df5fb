/- The law DocLimits, run by the abstract machine, answers true. Conditions: none. -/
import Derived.Test.YtbabneakocnnoaaGreatDoorBvm4
import Derived.Test.YtbabneakocnnoaaGreatDoorMDocLimitsL2
set_option maxRecDepth 100000
namespace Go.Proofs.YtbabneakocnnoaaGreatDoor
open Go.Bvm

theorem docLimits_run : Go.Bvm.YtbabneakocnnoaaGreatDoorTE.T4 (run Go.Bvm.YtbabneakocnnoaaGreatDoorMDocLimits.tbl2 80) Go.Bvm.YtbabneakocnnoaaGreatDoorTE.big (.x .cons (oslArg 3) V.nil) ⟨5, putM (pinsM Go.Bvm.YtbabneakocnnoaaGreatDoorTE.L) t6⟩ (fun v _ => onT v fun b => b) = true := by decide +kernel

end Go.Proofs.YtbabneakocnnoaaGreatDoor
