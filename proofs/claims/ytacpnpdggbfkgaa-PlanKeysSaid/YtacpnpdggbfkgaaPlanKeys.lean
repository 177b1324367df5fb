/- The law PlanKeys returns true at every input, and the input reads behind the call as it did before. Conditions: none. -/
import Derived.Test.YtacpnpdggbfkgaaRows
import Derived.Test.YtacpnpdggbfkgaaAvmLaw
import Derived.Test.YtacpnpdggbfkgaaTPlanKeys
namespace Go.Proofs.Ytacpnpdggbfkgaa
open Go.Avm

theorem planKeys_run : Go.Avm.YtacpnpdggbfkgaaTPlanKeys.tbl (run Go.Avm.YtacpnpdggbfkgaaTPlanKeys.tbl 5) 3 (.x .cons (oslArg 10) V.nil) ⟨0, t6⟩ (fun v _ => onT v fun b => b) = true := by decide +kernel

theorem planKeys_lifted (os : Os) (started : os.Started) (H : Type) (enc : TypeId × Value → H) :
    ReturnsInHanded {} Try.checked os 3 .any (Rows.planKeysSpec.pre6 enc Try.prog Try.f3 Rows.planKeysRow.domain false) (Rows.planKeysSpec.post enc Try.prog Try.f3 false true false false) := by
  refine law_lifted (C := Try.checked) (t := 39) (tb := 4) (by kernel_rfl) started (by kernel_rfl) Try.func3
    (ChangeSpec.witness6 (enc := enc) (C := Try.checked) false ⟨#[], #[.agg #[.slice none 0 0, .slice none 0 0, .slice none 0 0, .slice none 0 0, .slice none 0 0, .slice none 0 0, .slice none 0 0, .slice none 0 0, .slice none 0 0, .slice none 0 0]], []⟩ 8 (by kernel_rfl) (by kernel_rfl) (by kernel_rfl) (by kernel_rfl)) rfl rfl (by kernel_rfl) rfl (fun _ => rfl) (by kernel_rfl) (by kernel_rfl) (of_decide_eq_true (by kernel_rfl)) ?_
  intro W base v hv
  exact law_call (G := Go.Avm.YtacpnpdggbfkgaaTPlanKeys.G) (fun _ => rfl) (Go.Avm.YtacpnpdggbfkgaaTPlanKeys.run_tbl 5) (Go.Avm.YtacpnpdggbfkgaaTPlanKeys.tbl_ok _ _ _ _ _ planKeys_run)
    (okWide_osl (by kernel_rfl) hv)

theorem planKeys_holds : Rows.PlanKeysSaid :=
  OpenClaim.holds_of_wide 3 Try.f3 rfl rfl rfl rfl rfl rfl rfl ⟨rfl, rfl, rfl, rfl, rfl⟩ rfl rfl rfl rfl rfl (by kernel_rfl) Try.func3 (by kernel_rfl)
    (of_decide_eq_true (by kernel_rfl)) (by unfold Func.isWrapper; first | (rw [if_pos (by decide +kernel)]; kernel_rfl) | (rw [if_neg (by decide +kernel)]; exact ⟨rfl, rfl⟩))
    (fun os started H enc _ => planKeys_lifted os started H enc)

#print axioms planKeys_holds
end Go.Proofs.Ytacpnpdggbfkgaa
