/- The law CollectMerges returns true at every input of which its row speaks, and the input reads behind the call as it did before. Conditions: none. -/
import Derived.Test.YtjplhnnijolpnaaGreatDoorRows
import Derived.Test.YtjplhnnijolpnaaGreatDoorCollectMergesRun
import Derived.Test.YtjplhnnijolpnaaGreatDoorCollectMergesWit
set_option maxRecDepth 100000
namespace Go.Proofs.YtjplhnnijolpnaaGreatDoor
open Go.Bvm

theorem collectMerges_lifted (os : Os) (started : os.Started) (H : Type) (enc : TypeId × Value → H) :
    ReturnsInHanded {} Tryz.checked os 5 .any (fun w args => (Rows.collectMergesSpec.pre enc Tryz.prog Tryz.f5 Rows.collectMergesRow.domain false w args ∧ laidMetH Tryz.prog Rows.collectMergesRow.laid w) ∧ sizedMet enc Tryz.prog Tryz.f5 (OpenSpec.ofChange Rows.collectMergesSpec) false w args)
      (Rows.collectMergesSpec.post enc Tryz.prog Tryz.f5 false true false false) := by
  refine law_lifted_laid (C := Tryz.checked) (t := 34) (tb := 4) (by kernel_rfl) started (by kernel_rfl) Tryz.func5
    (ChangeSpec.witness_at (enc := enc) (C := Tryz.checked) (os := os) (X := fun w _ => laidMetH Tryz.prog Rows.collectMergesRow.laid w) false (laidWorld Tryz.prog os Rows.collectMergesRow.laid) #[.agg #[.slice none 0 0, .slice none 0 0, .slice none 0 0, .slice none 0 0, .slice none 0 0, .slice none 0 0, .slice none 0 0]] 8
      (laidWorld_os _ _ _) (by kernel_rfl) (by kernel_rfl) (by kernel_rfl) (by kernel_rfl) (by kernel_rfl) (collectMerges_laid os _))
    rfl rfl (by kernel_rfl) rfl (fun _ => rfl) (by kernel_rfl) (by kernel_rfl) (of_decide_eq_true (by kernel_rfl)) ?_
  intro W base v hv
  exact law_call (G := Go.Bvm.YtjplhnnijolpnaaGreatDoorTCol.G) Go.Bvm.YtjplhnnijolpnaaGreatDoorTCol.mixed (fun _ => rfl) Go.Bvm.YtjplhnnijolpnaaGreatDoorTCol.tbl_ok Go.Bvm.YtjplhnnijolpnaaGreatDoorTCol.e5 Go.Bvm.YtjplhnnijolpnaaGreatDoorTCol.c5 80 collectMerges_run (okWide_osl (by kernel_rfl) hv)

end Go.Proofs.YtjplhnnijolpnaaGreatDoor
