/- The law CollectMerges, run by the abstract machine, answers true. Conditions: none. -/
import Derived.Test.YtjplhnnijolpnaaGreatDoorBvmLaid
import Derived.Test.YtjplhnnijolpnaaGreatDoorTCol
set_option maxRecDepth 100000
namespace Go.Proofs.YtjplhnnijolpnaaGreatDoor
open Go.Bvm

theorem collectMerges_run : Go.Bvm.YtjplhnnijolpnaaGreatDoorTCol.T5 (run Go.Bvm.YtjplhnnijolpnaaGreatDoorTCol.tbl 80) Go.Bvm.YtjplhnnijolpnaaGreatDoorTCol.big (.x .cons (oslArg 7) V.nil) ⟨0, t6⟩ (fun v _ => onT v fun b => b) = true := by decide +kernel

end Go.Proofs.YtjplhnnijolpnaaGreatDoor
