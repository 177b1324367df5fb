/- The law JsonStrings returns true at every input of which its row speaks, and the input reads behind the call as it did before. Conditions: none. -/
import Derived.Test.YtacpnpdggbfkgaaDoorRows
import Derived.Test.YtacpnpdggbfkgaaDoorJsonStringsRun
import Derived.Test.YtacpnpdggbfkgaaDoorJsonStringsWit
set_option maxRecDepth 100000
namespace Go.Proofs.YtacpnpdggbfkgaaDoor
open Go.Bvm

theorem jsonStrings_lifted (os : Os) (started : os.Started) (H : Type) (enc : TypeId × Value → H) :
    ReturnsInHanded {} Tryd.checked os 7 .any (fun w args => (Rows.jsonStringsSpec.pre enc Tryd.prog Tryd.f7 Rows.jsonStringsRow.domain false w args ∧ laidMetH Tryd.prog Rows.jsonStringsRow.laid w) ∧ sizedMet enc Tryd.prog Tryd.f7 (OpenSpec.ofChange Rows.jsonStringsSpec) false w args)
      (Rows.jsonStringsSpec.post enc Tryd.prog Tryd.f7 false true false false) := by
  refine law_lifted_laid (C := Tryd.checked) (t := 25) (tb := 4) (by kernel_rfl) started (by kernel_rfl) Tryd.func7
    (ChangeSpec.witness_at (enc := enc) (C := Tryd.checked) (os := os) (X := fun w _ => laidMetH Tryd.prog Rows.jsonStringsRow.laid w) false (laidWorld Tryd.prog os Rows.jsonStringsRow.laid) #[.agg #[.slice none 0 0, .slice none 0 0, .slice none 0 0]] 8
      (laidWorld_os _ _ _) (by kernel_rfl) (by kernel_rfl) (by kernel_rfl) (by kernel_rfl) (by kernel_rfl) (jsonStrings_laid os _))
    rfl rfl (by kernel_rfl) rfl (fun _ => rfl) (by kernel_rfl) (by kernel_rfl) (of_decide_eq_true (by kernel_rfl)) ?_
  intro W base v hv
  exact law_call (G := Go.Bvm.YtacpnpdggbfkgaaDoorTJ.G) Go.Bvm.YtacpnpdggbfkgaaDoorTJ.mixed (fun _ => rfl) Go.Bvm.YtacpnpdggbfkgaaDoorMJsonStrings.tbl1_ok Go.Bvm.YtacpnpdggbfkgaaDoorTJ.e7 Go.Bvm.YtacpnpdggbfkgaaDoorTJ.c7 80 jsonStrings_run (okWide_osl (by kernel_rfl) hv)

end Go.Proofs.YtacpnpdggbfkgaaDoor
