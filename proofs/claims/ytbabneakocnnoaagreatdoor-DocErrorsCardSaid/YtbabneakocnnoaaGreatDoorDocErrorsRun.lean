/- The law DocErrors, run by the abstract machine, answers true. Conditions: none. -/
import Derived.Test.YtbabneakocnnoaaGreatDoorBvm4
import Derived.Test.YtbabneakocnnoaaGreatDoorTE
set_option maxRecDepth 100000
namespace Go.Proofs.YtbabneakocnnoaaGreatDoor
open Go.Bvm

theorem docErrors_run : Go.Bvm.YtbabneakocnnoaaGreatDoorTE.T3 (run Go.Bvm.YtbabneakocnnoaaGreatDoorTE.tbl 80) Go.Bvm.YtbabneakocnnoaaGreatDoorTE.big (.x .cons (oslArg 3) V.nil) ⟨5, putM (pinsM Go.Bvm.YtbabneakocnnoaaGreatDoorTE.L) t6⟩ (fun v _ => onT v fun b => b) = true := by decide +kernel

end Go.Proofs.YtbabneakocnnoaaGreatDoor
