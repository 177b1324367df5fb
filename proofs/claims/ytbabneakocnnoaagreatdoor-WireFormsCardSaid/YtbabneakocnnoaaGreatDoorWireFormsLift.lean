/- The law WireForms returns true at every input of which its row speaks, and the input reads behind the call as it did before. Conditions: none. -/
import Derived.Test.YtbabneakocnnoaaGreatDoorRows
import Derived.Test.YtbabneakocnnoaaGreatDoorWireFormsRun
import Derived.Test.YtbabneakocnnoaaGreatDoorWireFormsWit
set_option maxRecDepth 100000
namespace Go.Proofs.YtbabneakocnnoaaGreatDoor
open Go.Bvm

theorem wireForms_lifted (os : Os) (started : os.Started) (H : Type) (enc : TypeId × Value → H) :
    ReturnsInHanded {} Tryz.checked os 5 .any (fun w args => (Rows.wireFormsSpec.pre enc Tryz.prog Tryz.f5 Rows.wireFormsRow.domain false w args ∧ laidMetH Tryz.prog Rows.wireFormsRow.laid w) ∧ sizedMet enc Tryz.prog Tryz.f5 (OpenSpec.ofChange Rows.wireFormsSpec) false w args)
      (Rows.wireFormsSpec.post enc Tryz.prog Tryz.f5 false true false false) := by
  refine law_lifted_laid (C := Tryz.checked) (t := 36) (tb := 4) (by kernel_rfl) started (by kernel_rfl) Tryz.func5
    (ChangeSpec.witness_at (enc := enc) (C := Tryz.checked) (os := os) (X := fun w _ => laidMetH Tryz.prog Rows.wireFormsRow.laid w) false (laidWorld Tryz.prog os Rows.wireFormsRow.laid) #[.agg #[.slice none 0 0, .slice none 0 0, .slice none 0 0, .slice none 0 0]] 8
      (laidWorld_os _ _ _) (by kernel_rfl) (by kernel_rfl) (by kernel_rfl) (by kernel_rfl) (by kernel_rfl) (wireForms_laid os _))
    rfl rfl (by kernel_rfl) rfl (fun _ => rfl) (by kernel_rfl) (by kernel_rfl) (of_decide_eq_true (by kernel_rfl)) ?_
  intro W base v hv
  exact law_call (G := Go.Bvm.YtbabneakocnnoaaGreatDoorTWif.G) Go.Bvm.YtbabneakocnnoaaGreatDoorTWif.mixed (fun _ => rfl) Go.Bvm.YtbabneakocnnoaaGreatDoorTWif.tbl_ok Go.Bvm.YtbabneakocnnoaaGreatDoorTWif.e5 Go.Bvm.YtbabneakocnnoaaGreatDoorTWif.c5 80 wireForms_run (okWide_osl (by kernel_rfl) hv)

end Go.Proofs.YtbabneakocnnoaaGreatDoor
