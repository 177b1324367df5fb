/- The law VarsMany, run by the abstract machine, answers true. Conditions: none. -/
import Derived.Test.YtjplhnnijolpnaaGreatDoorBvm4
import Derived.Test.YtjplhnnijolpnaaGreatDoorMVarsManyL1
set_option maxRecDepth 100000
namespace Go.Proofs.YtjplhnnijolpnaaGreatDoor
open Go.Bvm

theorem varsMany_run : Go.Bvm.YtjplhnnijolpnaaGreatDoorTV.T7 (run Go.Bvm.YtjplhnnijolpnaaGreatDoorMVarsMany.tbl1 80) Go.Bvm.YtjplhnnijolpnaaGreatDoorTV.big (.x .cons (oslArg 7) V.nil) ⟨0, t6⟩ (fun v _ => onT v fun b => b) = true := by decide +kernel

end Go.Proofs.YtjplhnnijolpnaaGreatDoor
