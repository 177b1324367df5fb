/- The law JsonNumbers returns true at every input of which its row speaks, and the input reads behind the call as it did before. Conditions: none. -/
import Derived.Test.YtacpnpdggbfkgaaDoorRows
import Derived.Test.YtacpnpdggbfkgaaDoorJsonNumbersRun
import Derived.Test.YtacpnpdggbfkgaaDoorJsonNumbersWit
set_option maxRecDepth 100000
namespace Go.Proofs.YtacpnpdggbfkgaaDoor
open Go.Bvm

theorem jsonNumbers_lifted (os : Os) (started : os.Started) (H : Type) (enc : TypeId × Value → H) :
    ReturnsInHanded {} Tryd.checked os 5 .any (fun w args => (Rows.jsonNumbersSpec.pre enc Tryd.prog Tryd.f5 Rows.jsonNumbersRow.domain false w args ∧ laidMetH Tryd.prog Rows.jsonNumbersRow.laid w) ∧ sizedMet enc Tryd.prog Tryd.f5 (OpenSpec.ofChange Rows.jsonNumbersSpec) false w args)
      (Rows.jsonNumbersSpec.post enc Tryd.prog Tryd.f5 false true false false) := by
  refine law_lifted_laid (C := Tryd.checked) (t := 25) (tb := 4) (by kernel_rfl) started (by kernel_rfl) Tryd.func5
    (ChangeSpec.witness_at (enc := enc) (C := Tryd.checked) (os := os) (X := fun w _ => laidMetH Tryd.prog Rows.jsonNumbersRow.laid w) false (laidWorld Tryd.prog os Rows.jsonNumbersRow.laid) #[.agg #[.slice none 0 0, .slice none 0 0, .slice none 0 0]] 8
      (laidWorld_os _ _ _) (by kernel_rfl) (by kernel_rfl) (by kernel_rfl) (by kernel_rfl) (by kernel_rfl) (jsonNumbers_laid os _))
    rfl rfl (by kernel_rfl) rfl (fun _ => rfl) (by kernel_rfl) (by kernel_rfl) (of_decide_eq_true (by kernel_rfl)) ?_
  intro W base v hv
  exact law_call (G := Go.Bvm.YtacpnpdggbfkgaaDoorTJ.G) Go.Bvm.YtacpnpdggbfkgaaDoorTJ.mixed (fun _ => rfl) Go.Bvm.YtacpnpdggbfkgaaDoorTJ.tbl_ok Go.Bvm.YtacpnpdggbfkgaaDoorTJ.e5 Go.Bvm.YtacpnpdggbfkgaaDoorTJ.c5 80 jsonNumbers_run (okWide_osl (by kernel_rfl) hv)

end Go.Proofs.YtacpnpdggbfkgaaDoor
