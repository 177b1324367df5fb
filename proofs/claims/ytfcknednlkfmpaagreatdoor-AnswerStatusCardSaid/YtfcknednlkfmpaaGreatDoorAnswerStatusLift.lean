/- The law AnswerStatus returns true at every input of which its row speaks, and the input reads behind the call as it did before. Conditions: none. -/
import Derived.Test.YtfcknednlkfmpaaGreatDoorRows
import Derived.Test.YtfcknednlkfmpaaGreatDoorAnswerStatusRun
import Derived.Test.YtfcknednlkfmpaaGreatDoorAnswerStatusWit
set_option maxRecDepth 100000
namespace Go.Proofs.YtfcknednlkfmpaaGreatDoor
open Go.Bvm

theorem answerStatus_lifted (os : Os) (started : os.Started) (H : Type) (enc : TypeId × Value → H) :
    ReturnsInHanded {} Tryz.checked os 6 .any (fun w args => (Rows.answerStatusSpec.pre enc Tryz.prog Tryz.f6 Rows.answerStatusRow.domain false w args ∧ laidMetH Tryz.prog Rows.answerStatusRow.laid w) ∧ sizedMet enc Tryz.prog Tryz.f6 (OpenSpec.ofChange Rows.answerStatusSpec) false w args)
      (Rows.answerStatusSpec.post enc Tryz.prog Tryz.f6 false true false false) := by
  refine law_lifted_laid (C := Tryz.checked) (t := 45) (tb := 4) (by kernel_rfl) started (by kernel_rfl) Tryz.func6
    (ChangeSpec.witness_at (enc := enc) (C := Tryz.checked) (os := os) (X := fun w _ => laidMetH Tryz.prog Rows.answerStatusRow.laid w) false (laidWorld Tryz.prog os Rows.answerStatusRow.laid) #[.agg #[.slice none 0 0, .slice none 0 0, .slice none 0 0, .slice none 0 0, .slice none 0 0, .slice none 0 0, .slice none 0 0, .slice none 0 0, .slice none 0 0, .slice none 0 0, .slice none 0 0]] 8
      (laidWorld_os _ _ _) (by kernel_rfl) (by kernel_rfl) (by kernel_rfl) (by kernel_rfl) (by kernel_rfl) (answerStatus_laid os _))
    rfl rfl (by kernel_rfl) rfl (fun _ => rfl) (by kernel_rfl) (by kernel_rfl) (of_decide_eq_true (by kernel_rfl)) ?_
  intro W base v hv
  exact law_call (G := Go.Bvm.YtfcknednlkfmpaaGreatDoorTS.G) Go.Bvm.YtfcknednlkfmpaaGreatDoorTS.mixed (fun _ => rfl) Go.Bvm.YtfcknednlkfmpaaGreatDoorMAnswerStatus.tbl1_ok Go.Bvm.YtfcknednlkfmpaaGreatDoorTS.e6 Go.Bvm.YtfcknednlkfmpaaGreatDoorTS.c6 80 answerStatus_run (okWide_osl (by kernel_rfl) hv)

end Go.Proofs.YtfcknednlkfmpaaGreatDoor
