/- The law VarsMany returns true at every input of which its row speaks, and the input reads behind the call as it did before. Conditions: none. -/
import Derived.Test.YtjplhnnijolpnaaGreatDoorRows
import Derived.Test.YtjplhnnijolpnaaGreatDoorVarsManyRun
import Derived.Test.YtjplhnnijolpnaaGreatDoorVarsManyWit
set_option maxRecDepth 100000
namespace Go.Proofs.YtjplhnnijolpnaaGreatDoor
open Go.Bvm

theorem varsMany_lifted (os : Os) (started : os.Started) (H : Type) (enc : TypeId × Value → H) :
    ReturnsInHanded {} Tryz.checked os 7 .any (fun w args => (Rows.varsManySpec.pre enc Tryz.prog Tryz.f7 Rows.varsManyRow.domain false w args ∧ laidMetH Tryz.prog Rows.varsManyRow.laid w) ∧ sizedMet enc Tryz.prog Tryz.f7 (OpenSpec.ofChange Rows.varsManySpec) false w args)
      (Rows.varsManySpec.post enc Tryz.prog Tryz.f7 false true false false) := by
  refine law_lifted_laid (C := Tryz.checked) (t := 34) (tb := 4) (by kernel_rfl) started (by kernel_rfl) Tryz.func7
    (ChangeSpec.witness_at (enc := enc) (C := Tryz.checked) (os := os) (X := fun w _ => laidMetH Tryz.prog Rows.varsManyRow.laid w) false (laidWorld Tryz.prog os Rows.varsManyRow.laid) #[.agg #[.slice none 0 0, .slice none 0 0, .slice none 0 0, .slice none 0 0, .slice none 0 0, .slice none 0 0, .slice none 0 0]] 8
      (laidWorld_os _ _ _) (by kernel_rfl) (by kernel_rfl) (by kernel_rfl) (by kernel_rfl) (by kernel_rfl) (varsMany_laid os _))
    rfl rfl (by kernel_rfl) rfl (fun _ => rfl) (by kernel_rfl) (by kernel_rfl) (of_decide_eq_true (by kernel_rfl)) ?_
  intro W base v hv
  exact law_call (G := Go.Bvm.YtjplhnnijolpnaaGreatDoorTV.G) Go.Bvm.YtjplhnnijolpnaaGreatDoorTV.mixed (fun _ => rfl) Go.Bvm.YtjplhnnijolpnaaGreatDoorMVarsMany.tbl1_ok Go.Bvm.YtjplhnnijolpnaaGreatDoorTV.e7 Go.Bvm.YtjplhnnijolpnaaGreatDoorTV.c7 80 varsMany_run (okWide_osl (by kernel_rfl) hv)

end Go.Proofs.YtjplhnnijolpnaaGreatDoor
