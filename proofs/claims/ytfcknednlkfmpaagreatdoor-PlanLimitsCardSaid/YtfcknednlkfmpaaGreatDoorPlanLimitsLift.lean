/- The law PlanLimits returns true at every input of which its row speaks, and the input reads behind the call as it did before. Conditions: none. -/
import Derived.Test.YtfcknednlkfmpaaGreatDoorRows
import Derived.Test.YtfcknednlkfmpaaGreatDoorPlanLimitsRun
import Derived.Test.YtfcknednlkfmpaaGreatDoorPlanLimitsWit
set_option maxRecDepth 100000
namespace Go.Proofs.YtfcknednlkfmpaaGreatDoor
open Go.Bvm

theorem planLimits_lifted (os : Os) (started : os.Started) (H : Type) (enc : TypeId × Value → H) :
    ReturnsInHanded {} Tryz.checked os 4 .any (fun w args => (Rows.planLimitsSpec.pre enc Tryz.prog Tryz.f4 Rows.planLimitsRow.domain false w args ∧ laidMetH Tryz.prog Rows.planLimitsRow.laid w) ∧ sizedMet enc Tryz.prog Tryz.f4 (OpenSpec.ofChange Rows.planLimitsSpec) false w args)
      (Rows.planLimitsSpec.post enc Tryz.prog Tryz.f4 false true false false) := by
  refine law_lifted_laid (C := Tryz.checked) (t := 39) (tb := 4) (by kernel_rfl) started (by kernel_rfl) Tryz.func4
    (ChangeSpec.witness_at (enc := enc) (C := Tryz.checked) (os := os) (X := fun w _ => laidMetH Tryz.prog Rows.planLimitsRow.laid w) false (laidWorld Tryz.prog os Rows.planLimitsRow.laid) #[.agg #[.slice none 0 0, .slice none 0 0, .slice none 0 0, .slice none 0 0, .slice none 0 0, .slice none 0 0, .slice none 0 0, .slice none 0 0, .slice none 0 0, .slice none 0 0]] 8
      (laidWorld_os _ _ _) (by kernel_rfl) (by kernel_rfl) (by kernel_rfl) (by kernel_rfl) (by kernel_rfl) (planLimits_laid os _))
    rfl rfl (by kernel_rfl) rfl (fun _ => rfl) (by kernel_rfl) (by kernel_rfl) (of_decide_eq_true (by kernel_rfl)) ?_
  intro W base v hv
  exact law_call (G := Go.Bvm.YtfcknednlkfmpaaGreatDoorTPli.G) Go.Bvm.YtfcknednlkfmpaaGreatDoorTPli.mixed (fun _ => rfl) Go.Bvm.YtfcknednlkfmpaaGreatDoorMPlanLimits.tbl1_ok Go.Bvm.YtfcknednlkfmpaaGreatDoorTPli.e4 Go.Bvm.YtfcknednlkfmpaaGreatDoorTPli.c4 80 planLimits_run (okWide_osl (by kernel_rfl) hv)

end Go.Proofs.YtfcknednlkfmpaaGreatDoor
