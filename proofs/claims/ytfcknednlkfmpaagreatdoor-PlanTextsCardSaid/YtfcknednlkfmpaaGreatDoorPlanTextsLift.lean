/- The law PlanTexts returns true at every input of which its row speaks, and the input reads behind the call as it did before. Conditions: none. -/
import Derived.Test.YtfcknednlkfmpaaGreatDoorRows
import Derived.Test.YtfcknednlkfmpaaGreatDoorPlanTextsRun
import Derived.Test.YtfcknednlkfmpaaGreatDoorPlanTextsWit
import Derived.Test.YtfcknednlkfmpaaGreatDoorTen
set_option maxRecDepth 100000
namespace Go.Proofs.YtfcknednlkfmpaaGreatDoor
open Go.Bvm

theorem planTexts_pins {W : World} (h : laidMetH Tryz.prog Rows.planTextsRow.laid W) : PinsAt Go.Bvm.YtfcknednlkfmpaaGreatDoorTP.L W := by
  intro x hx
  have hx : x ∈ [(2, 0, 0, 0)] := hx
  simp only [List.mem_cons, List.not_mem_nil, or_false] at hx
  obtain rfl := hx
  · exact pin_of_tab (ten_tab (tab_of_laid h rfl)) ten_named

theorem planTexts_lifted (os : Os) (started : os.Started) (H : Type) (enc : TypeId × Value → H) :
    ReturnsInHanded {} Tryz.checked os 3 .any (fun w args => (Rows.planTextsSpec.pre enc Tryz.prog Tryz.f3 Rows.planTextsRow.domain false w args ∧ laidMetH Tryz.prog Rows.planTextsRow.laid w) ∧ sizedMet enc Tryz.prog Tryz.f3 (OpenSpec.ofChange Rows.planTextsSpec) false w args)
      (Rows.planTextsSpec.post enc Tryz.prog Tryz.f3 false true false false) := by
  refine law_lifted_laid2 (C := Tryz.checked) (t := 39) (tb := 4) (by kernel_rfl) started (by kernel_rfl) Tryz.func3
    (ChangeSpec.witness_at (enc := enc) (C := Tryz.checked) (os := os) (X := fun w _ => laidMetH Tryz.prog Rows.planTextsRow.laid w) false (laidWorld Tryz.prog os Rows.planTextsRow.laid) #[.agg #[.slice none 0 0, .slice none 0 0, .slice none 0 0, .slice none 0 0, .slice none 0 0, .slice none 0 0, .slice none 0 0, .slice none 0 0, .slice none 0 0, .slice none 0 0]] 8
      (laidWorld_os _ _ _) (by kernel_rfl) (by kernel_rfl) (by kernel_rfl) (by kernel_rfl) (by kernel_rfl) (planTexts_laid os _))
    rfl rfl (by kernel_rfl) rfl (fun _ => rfl) (by kernel_rfl) (by kernel_rfl) (of_decide_eq_true (by kernel_rfl)) ?_
  intro W base v hX hv
  exact law_call_pins (L := Go.Bvm.YtfcknednlkfmpaaGreatDoorTP.L) (nn := 5) Go.Bvm.YtfcknednlkfmpaaGreatDoorTP.mixed (by decide +kernel) (by decide +kernel) (by kernel_rfl) Go.Bvm.YtfcknednlkfmpaaGreatDoorMPlanTexts.tbl3_ok Go.Bvm.YtfcknednlkfmpaaGreatDoorTP.e3 Go.Bvm.YtfcknednlkfmpaaGreatDoorTP.c3 80 planTexts_run (planTexts_pins hX) (okWide_osl (by kernel_rfl) hv)

end Go.Proofs.YtfcknednlkfmpaaGreatDoor
