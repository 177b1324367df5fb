/- The law JsonDeep returns true at every input of which its row speaks, and the input reads behind the call as it did before. Conditions: none. -/
import Derived.Test.YtacpnpdggbfkgaaDoorRows
import Derived.Test.YtacpnpdggbfkgaaDoorJsonDeepRun
import Derived.Test.YtacpnpdggbfkgaaDoorJsonDeepWit
set_option maxRecDepth 100000
namespace Go.Proofs.YtacpnpdggbfkgaaDoor
open Go.Bvm

theorem jsonDeep_lifted (os : Os) (started : os.Started) (H : Type) (enc : TypeId × Value → H) :
    ReturnsInHanded {} Tryd.checked os 6 .any (fun w args => (Rows.jsonDeepSpec.pre enc Tryd.prog Tryd.f6 Rows.jsonDeepRow.domain false w args ∧ laidMetH Tryd.prog Rows.jsonDeepRow.laid w) ∧ sizedMet enc Tryd.prog Tryd.f6 (OpenSpec.ofChange Rows.jsonDeepSpec) false w args)
      (Rows.jsonDeepSpec.post enc Tryd.prog Tryd.f6 false true false false) := by
  refine law_lifted_laid (C := Tryd.checked) (t := 25) (tb := 4) (by kernel_rfl) started (by kernel_rfl) Tryd.func6
    (ChangeSpec.witness_at (enc := enc) (C := Tryd.checked) (os := os) (X := fun w _ => laidMetH Tryd.prog Rows.jsonDeepRow.laid w) false (laidWorld Tryd.prog os Rows.jsonDeepRow.laid) #[.agg #[.slice none 0 0, .slice none 0 0, .slice none 0 0]] 8
      (laidWorld_os _ _ _) (by kernel_rfl) (by kernel_rfl) (by kernel_rfl) (by kernel_rfl) (by kernel_rfl) (jsonDeep_laid os _))
    rfl rfl (by kernel_rfl) rfl (fun _ => rfl) (by kernel_rfl) (by kernel_rfl) (of_decide_eq_true (by kernel_rfl)) ?_
  intro W base v hv
  exact law_call (G := Go.Bvm.YtacpnpdggbfkgaaDoorTJ.G) Go.Bvm.YtacpnpdggbfkgaaDoorTJ.mixed (fun _ => rfl) Go.Bvm.YtacpnpdggbfkgaaDoorMJsonDeep.tbl2_ok Go.Bvm.YtacpnpdggbfkgaaDoorTJ.e6 Go.Bvm.YtacpnpdggbfkgaaDoorTJ.c6 80 jsonDeep_run (okWide_osl (by kernel_rfl) hv)

end Go.Proofs.YtacpnpdggbfkgaaDoor
