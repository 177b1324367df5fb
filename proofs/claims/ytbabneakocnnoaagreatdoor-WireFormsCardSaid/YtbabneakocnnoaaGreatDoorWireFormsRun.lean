/- The law WireForms, run by the abstract machine, answers true. Conditions: none. -/
import Derived.Test.YtbabneakocnnoaaGreatDoorBvmLaid
import Derived.Test.YtbabneakocnnoaaGreatDoorTWif
set_option maxRecDepth 100000
namespace Go.Proofs.YtbabneakocnnoaaGreatDoor
open Go.Bvm

theorem wireForms_run : Go.Bvm.YtbabneakocnnoaaGreatDoorTWif.T5 (run Go.Bvm.YtbabneakocnnoaaGreatDoorTWif.tbl 80) Go.Bvm.YtbabneakocnnoaaGreatDoorTWif.big (.x .cons (oslArg 4) V.nil) ⟨0, t6⟩ (fun v _ => onT v fun b => b) = true := by decide +kernel

end Go.Proofs.YtbabneakocnnoaaGreatDoor
