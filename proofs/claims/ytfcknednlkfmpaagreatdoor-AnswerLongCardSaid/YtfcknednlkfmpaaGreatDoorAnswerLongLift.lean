/- The law AnswerLong returns true at every input of which its row speaks, and the input reads behind the call as it did before. Conditions: none. -/
import Derived.Test.YtfcknednlkfmpaaGreatDoorRows
import Derived.Test.YtfcknednlkfmpaaGreatDoorAnswerLongRun
import Derived.Test.YtfcknednlkfmpaaGreatDoorAnswerLongWit
set_option maxRecDepth 100000
namespace Go.Proofs.YtfcknednlkfmpaaGreatDoor
open Go.Bvm

theorem answerLong_lifted (os : Os) (started : os.Started) (H : Type) (enc : TypeId × Value → H) :
    ReturnsInHanded {} Tryz.checked os 5 .any (fun w args => (Rows.answerLongSpec.pre enc Tryz.prog Tryz.f5 Rows.answerLongRow.domain false w args ∧ laidMetH Tryz.prog Rows.answerLongRow.laid w) ∧ sizedMet enc Tryz.prog Tryz.f5 (OpenSpec.ofChange Rows.answerLongSpec) false w args)
      (Rows.answerLongSpec.post enc Tryz.prog Tryz.f5 false true false false) := by
  refine law_lifted_laid (C := Tryz.checked) (t := 45) (tb := 4) (by kernel_rfl) started (by kernel_rfl) Tryz.func5
    (ChangeSpec.witness_at (enc := enc) (C := Tryz.checked) (os := os) (X := fun w _ => laidMetH Tryz.prog Rows.answerLongRow.laid w) false (laidWorld Tryz.prog os Rows.answerLongRow.laid) #[.agg #[.slice none 0 0, .slice none 0 0, .slice none 0 0, .slice none 0 0, .slice none 0 0, .slice none 0 0, .slice none 0 0, .slice none 0 0, .slice none 0 0, .slice none 0 0, .slice none 0 0]] 8
      (laidWorld_os _ _ _) (by kernel_rfl) (by kernel_rfl) (by kernel_rfl) (by kernel_rfl) (by kernel_rfl) (answerLong_laid os _))
    rfl rfl (by kernel_rfl) rfl (fun _ => rfl) (by kernel_rfl) (by kernel_rfl) (of_decide_eq_true (by kernel_rfl)) ?_
  intro W base v hv
  exact law_call (G := Go.Bvm.YtfcknednlkfmpaaGreatDoorTL.G) Go.Bvm.YtfcknednlkfmpaaGreatDoorTL.mixed (fun _ => rfl) Go.Bvm.YtfcknednlkfmpaaGreatDoorMAnswerLong.tbl1_ok Go.Bvm.YtfcknednlkfmpaaGreatDoorTL.e5 Go.Bvm.YtfcknednlkfmpaaGreatDoorTL.c5 80 answerLong_run (okWide_osl (by kernel_rfl) hv)

end Go.Proofs.YtfcknednlkfmpaaGreatDoor
