/- The law DocLimits returns true at every input of which its row speaks, and the input reads behind the call as it did before. Conditions: none. -/
import Derived.Test.YtbabneakocnnoaaGreatDoorRows
import Derived.Test.YtbabneakocnnoaaGreatDoorDocLimitsRun
import Derived.Test.YtbabneakocnnoaaGreatDoorDocLimitsWit
import Derived.Test.YtbabneakocnnoaaGreatDoorAs
set_option maxRecDepth 100000
namespace Go.Proofs.YtbabneakocnnoaaGreatDoor
open Go.Bvm

theorem docLimits_pins {W : World} (h : laidMetH Tryz.prog Rows.docLimitsRow.laid W) : PinsAt Go.Bvm.YtbabneakocnnoaaGreatDoorTE.L W := by
  intro x hx
  have hx : x ∈ [(0, 194, 5, 98)] := hx
  simp only [List.mem_cons, List.not_mem_nil, or_false] at hx
  obtain rfl := hx
  · exact pin_of_laid h (x := ("errors.errorType", Rows.laid_errors_errorType)) rfl rfl rfl as_named as_rtype as_types as_oneRow as_globals (by decide)

theorem docLimits_lifted (os : Os) (started : os.Started) (H : Type) (enc : TypeId × Value → H) :
    ReturnsInHanded {} Tryz.checked os 4 .any (fun w args => (Rows.docLimitsSpec.pre enc Tryz.prog Tryz.f4 Rows.docLimitsRow.domain false w args ∧ laidMetH Tryz.prog Rows.docLimitsRow.laid w) ∧ sizedMet enc Tryz.prog Tryz.f4 (OpenSpec.ofChange Rows.docLimitsSpec) false w args)
      (Rows.docLimitsSpec.post enc Tryz.prog Tryz.f4 false true false false) := by
  refine law_lifted_laid2 (C := Tryz.checked) (t := 28) (tb := 4) (by kernel_rfl) started (by kernel_rfl) Tryz.func4
    (ChangeSpec.witness_at (enc := enc) (C := Tryz.checked) (os := os) (X := fun w _ => laidMetH Tryz.prog Rows.docLimitsRow.laid w) false (laidWorld Tryz.prog os Rows.docLimitsRow.laid) #[.agg #[.slice none 0 0, .slice none 0 0, .slice none 0 0]] 8
      (laidWorld_os _ _ _) (by kernel_rfl) (by kernel_rfl) (by kernel_rfl) (by kernel_rfl) (by kernel_rfl) (docLimits_laid os _))
    rfl rfl (by kernel_rfl) rfl (fun _ => rfl) (by kernel_rfl) (by kernel_rfl) (of_decide_eq_true (by kernel_rfl)) ?_
  intro W base v hX hv
  exact law_call_pins (L := Go.Bvm.YtbabneakocnnoaaGreatDoorTE.L) (nn := 5) Go.Bvm.YtbabneakocnnoaaGreatDoorTE.mixed (by decide +kernel) (by decide +kernel) (by kernel_rfl) Go.Bvm.YtbabneakocnnoaaGreatDoorMDocLimits.tbl2_ok Go.Bvm.YtbabneakocnnoaaGreatDoorTE.e4 Go.Bvm.YtbabneakocnnoaaGreatDoorTE.c4 80 docLimits_run (docLimits_pins hX) (okWide_osl (by kernel_rfl) hv)

end Go.Proofs.YtbabneakocnnoaaGreatDoor
