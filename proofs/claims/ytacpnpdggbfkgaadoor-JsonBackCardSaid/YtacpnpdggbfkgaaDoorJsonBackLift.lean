/- The law JsonBack returns true at every input of which its row speaks, and the input reads behind the call as it did before. Conditions: none. -/
import Derived.Test.YtacpnpdggbfkgaaDoorRows
import Derived.Test.YtacpnpdggbfkgaaDoorJRf
import Derived.Test.YtacpnpdggbfkgaaDoorJsonBackWit
set_option maxRecDepth 100000
namespace Go.Proofs.YtacpnpdggbfkgaaDoor
open Go.Bvm Go.Bvm.JN

theorem jsonBack_call {W : World} {base : Nat} {v : Value} {H : Type} {enc : TypeId × Value → H} {d : DataW H} (ht : Lib.TabIs Tryd.prog W "internal/strconv.uint64pow10" .u64 Lib.pow10Tab) (hv : Value.okWide Tryd.prog W .any base Ty_amanuensislaw1_Ask v)
    (hr : ∃ fu ps, DataW.trod enc Tryd.prog W 0 (fun _ => true) true fu Ty_amanuensislaw1_Ask v.cells.toList = some (d, ps)) (hw : ∀ n ∈ d.weights Tryd.prog Ty_amanuensislaw1_Ask, n ≤ reachBytes) :
    Calls Tryd.prog Nf_l1_JsonBack #[v] W fun e W' => e = .returned (.bool true) ∧ Go.RowKit.Below W.heap.size W W' := by
  have hp : PinsAt pinL W := pins_at ht
  have hc : HasCells W := by
    obtain ⟨el, fr, e⟩ := hp _ (List.mem_cons_self ..)
    exact ⟨_, _, _, _, e⟩
  have cS : CanS Str enc Tryd.prog W Ty_Sl_string := canS hc (e := Ty_string) (by kernel_rfl) (by kernel_rfl) (by decide) (of_decide_eq_true (by kernel_rfl)) (can_str (by kernel_rfl))
  have cI : CanS Int enc Tryd.prog W Ty_Sl_int := canS hc (e := Ty_int) (by kernel_rfl) (by kernel_rfl) (by decide) (of_decide_eq_true (by kernel_rfl)) (can_int (by kernel_rfl))
  have cN : CanS JF enc Tryd.prog W Ty_Sl_api_Json := canS hc (e := Ty_api_Json) (by kernel_rfl) (by kernel_rfl) (by decide) (of_decide_eq_true (by kernel_rfl))
    (can_node (t0 := Ty_int) (t1 := Ty_int) (t2 := Ty_string) (t3 := Ty_Sl_string) (t4 := Ty_Sl_int) (by kernel_rfl) (by kernel_rfl) (by kernel_rfl) (by kernel_rfl) (by kernel_rfl) (by kernel_rfl) (by kernel_rfl) (by kernel_rfl) (by kernel_rfl) (by kernel_rfl) cS cI)
  have cL : CanS (List JF) enc Tryd.prog W Ty_Sl_Sl_api_Json := canS hc (e := Ty_Sl_api_Json) (by kernel_rfl) (by kernel_rfl) (by decide) (of_decide_eq_true (by kernel_rfl)) (can_cell cN)
  refine law_call_imp (lf := big) mixed (by decide) nn_le nn_sz tbl_ok e_l1_JsonBack c_l1_JsonBack 90 hp (l := [v]) fun φ R F => ?_
  obtain ⟨S, Q, L, φ', h', a, b, c, R', le, F', K, rv, hA, hB, hC⟩ := can_ask (t0 := Ty_Sl_string) (t1 := Ty_Sl_Sl_api_Json) (t2 := Ty_Sl_string) (by kernel_rfl) (by kernel_rfl) (by kernel_rfl) (by kernel_rfl) (by kernel_rfl) cS cL cS hv hr hw φ _ R F
  refine ⟨φ', h', vl [.x .agg (vl [a, b, c]) V.nil], R', le, F', .cons rv .nil, ?_⟩
  have hp : Pin h' := (K.2 Pg (by decide)).trans (by rfl)
  have hq : Pg < h'.next := Nat.lt_of_lt_of_le (by decide) K.1
  have := JsonBack_w (n := 56) hA hB hC hp hq (k := fun v _ => onT v fun b => b) (fun _ => rfl)
  rw [run_succ, tbl_l1_JsonBack] at this
  exact this
theorem jsonBack_lifted (os : Os) (started : os.Started) (H : Type) (enc : TypeId × Value → H) :
    ReturnsInHanded {} Tryd.checked os 4 .any (fun w args => (Rows.jsonBackSpec.pre enc Tryd.prog Tryd.f4 Rows.jsonBackRow.domain false w args ∧ laidMetH Tryd.prog Rows.jsonBackRow.laid w) ∧ sizedMet enc Tryd.prog Tryd.f4 (OpenSpec.ofChange Rows.jsonBackSpec) false w args)
      (Rows.jsonBackSpec.post enc Tryd.prog Tryd.f4 false true false false) := by
  refine law_lifted_laid3 (C := Tryd.checked) (t := 25) (tb := 4) (by kernel_rfl) started (by kernel_rfl) Tryd.func4
    (ChangeSpec.witness_at (enc := enc) (C := Tryd.checked) (os := os) (X := fun w _ => laidMetH Tryd.prog Rows.jsonBackRow.laid w) false (laidWorld Tryd.prog os Rows.jsonBackRow.laid) #[.agg #[.slice none 0 0, .slice none 0 0, .slice none 0 0]] 8
      (laidWorld_os _ _ _) (by kernel_rfl) (by kernel_rfl) (by kernel_rfl) (by kernel_rfl) (by kernel_rfl) (jsonBack_laid os _))
    rfl rfl (by kernel_rfl) rfl (fun _ => rfl) (by kernel_rfl) (by kernel_rfl) (of_decide_eq_true (by kernel_rfl)) ?_
  intro W base v d hX hv hrd hwt
  exact jsonBack_call (ten_tab (tab_of_laid hX rfl)) hv hrd hwt

end Go.Proofs.YtacpnpdggbfkgaaDoor
