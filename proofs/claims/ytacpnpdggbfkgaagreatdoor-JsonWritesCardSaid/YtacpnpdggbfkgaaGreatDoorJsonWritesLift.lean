/- The law JsonWrites returns true at every input of which its row speaks, and the input reads behind the call as it did before. Conditions: none. -/
import Derived.Test.YtacpnpdggbfkgaaGreatDoorRows
import Derived.Test.YtacpnpdggbfkgaaGreatDoorJRg
import Derived.Test.YtacpnpdggbfkgaaGreatDoorJsonWritesWit
set_option maxRecDepth 100000
namespace Go.Proofs.YtacpnpdggbfkgaaGreatDoor
open Go.Bvm Go.Bvm.JN

theorem errAt_bk {h : H} {g el : Nat} {t : Nat} {a b : V} (B : Bk h g 0 0 el false false [.x (.iface t) a b]) : ErrAt h g := by
  obtain ⟨c, e1, e2, e3⟩ := B
  exact ⟨c, _, _, _, _, t, a, b, e1, e3 0 (by simp)⟩
theorem jsonWrites_call {W : World} {base : Nat} {v : Value} {H : Type} {enc : TypeId × Value → H} {d : DataW H} (ht : Lib.TabIs Tryz.prog W "internal/strconv.uint64pow10" .u64 Lib.pow10Tab) {x1 x2 : String} {d1 d2 : DataW Unit} (hs : Lib.VarReads Tryz.prog W "strconv.ErrSyntax" (.iface x1 d1)) (hg : Lib.VarReads Tryz.prog W "strconv.ErrRange" (.iface x2 d2)) (hv : Value.okWide Tryz.prog W .any base Ty_amanuensislaw1_Ask v)
    (hr : ∃ fu ps, DataW.trod enc Tryz.prog W 0 (fun _ => true) true fu Ty_amanuensislaw1_Ask v.cells.toList = some (d, ps)) (hw : ∀ n ∈ d.weights Tryz.prog Ty_amanuensislaw1_Ask, n ≤ reachBytes) :
    Calls Tryz.prog Nf_l1_JsonWrites #[v] W fun e W' => e = .returned (.bool true) ∧ Go.RowKit.Below W.heap.size W W' := by
  have hp : PinsAt pinL W := pins_at ht
  have hc : HasCells W := by
    obtain ⟨el, fr, e⟩ := hp _ (List.mem_cons_self ..)
    exact ⟨_, _, _, _, e⟩
  have cS : CanS Str enc Tryz.prog W Ty_Sl_string := canS hc (e := Ty_string) (by kernel_rfl) (by kernel_rfl) (by decide) (of_decide_eq_true (by kernel_rfl)) (can_str (by kernel_rfl))
  have cI : CanS Int enc Tryz.prog W Ty_Sl_int := canS hc (e := Ty_int) (by kernel_rfl) (by kernel_rfl) (by decide) (of_decide_eq_true (by kernel_rfl)) (can_int (by kernel_rfl))
  have cN : CanS JF enc Tryz.prog W Ty_Sl_api_Json := canS hc (e := Ty_api_Json) (by kernel_rfl) (by kernel_rfl) (by decide) (of_decide_eq_true (by kernel_rfl))
    (can_node (t0 := Ty_int) (t1 := Ty_int) (t2 := Ty_string) (t3 := Ty_Sl_string) (t4 := Ty_Sl_int) (by kernel_rfl) (by kernel_rfl) (by kernel_rfl) (by kernel_rfl) (by kernel_rfl) (by kernel_rfl) (by kernel_rfl) (by kernel_rfl) (by kernel_rfl) (by kernel_rfl) cS cI)
  have cL : CanS (List JF) enc Tryz.prog W Ty_Sl_Sl_api_Json := canS hc (e := Ty_Sl_api_Json) (by kernel_rfl) (by kernel_rfl) (by decide) (of_decide_eq_true (by kernel_rfl)) (can_cell cN)
  obtain ⟨ms1, hu1⟩ : ∃ ms, Tryz.prog.underlying 88 = some (.interface ms) := by
    have h : (match Tryz.prog.underlying 88 with | some (.interface _) => true | _ => false) = true := by kernel_rfl
    revert h
    generalize Tryz.prog.underlying 88 = u
    intro h
    split at h
    · exact ⟨_, rfl⟩
    · cases h
  obtain ⟨u1, v1, cs1, el1, fr1, a1, b1⟩ := err_at (g := 1) (t := 88) (by kernel_rfl) (by kernel_rfl) hu1 hs
  obtain ⟨u2, v2, cs2, el2, fr2, a2, b2⟩ := err_at (g := 2) (t := 88) (by kernel_rfl) (by kernel_rfl) hu1 hg
  have R0 : Rel (pinPhi (pinSz pinL)) ⟨1, putM (pinsM pinL) t6⟩ W := pins_start (by decide) hp
  obtain ⟨φ1, h1, R1, le1, F1, ⟨z1, p1⟩, B1, n1, o1⟩ := lay_err R0 (FO.start pinL 1) a1 b1
  have n1 : h1.next = 2 := n1
  obtain ⟨φ2, h2, R2, le2, F2, ⟨z2, p2⟩, B2, n2, o2⟩ := lay_err R1 F1 (by rw [n1]; exact a2) b2
  rw [n1] at p2 B2 n2 o2
  have p1 : φ1 1 0 = some ⟨1, 0, 1, z1⟩ := p1
  have hg2 : GlobOk Tryz.prog G φ2 := fun x q hx hq => by
    have hx : pinG gL x = true := hx
    obtain ⟨y, hy, hxy⟩ := List.any_eq_true.1 hx
    obtain rfl := beq_true hxy
    have hy : y = (0, 0, 0, 0) ∨ y = (1, 0, 0, 0) ∨ y = (2, 0, 0, 0) := by
      have hy : y ∈ [(0, 0, 0, 0), (1, 0, 0, 0), (2, 0, 0, 0)] := hy
      simpa using hy
    rcases hy with rfl | rfl | rfl
    · have e : Tryz.prog.globals[0]? = some ⟨"internal/strconv.uint64pow10", 149, none⟩ := by kernel_rfl
      have hq : Tryz.prog.globals[0]? = some q := hq
      rw [e] at hq
      obtain rfl := Option.some.inj hq
      exact ⟨⟨0, 0, 64, 64⟩, le2 _ _ _ (le1 _ _ _ rfl), rfl, rfl, ble_true (by kernel_rfl)⟩
    · have e : Tryz.prog.globals[1]? = some ⟨"strconv.ErrSyntax", 88, none⟩ := by kernel_rfl
      have hq : Tryz.prog.globals[1]? = some q := hq
      rw [e] at hq
      obtain rfl := Option.some.inj hq
      exact ⟨_, le2 _ _ _ p1, rfl, rfl, ble_true (by kernel_rfl)⟩
    · have e : Tryz.prog.globals[2]? = some ⟨"strconv.ErrRange", 88, none⟩ := by kernel_rfl
      have hq : Tryz.prog.globals[2]? = some q := hq
      rw [e] at hq
      obtain rfl := Option.some.inj hq
      exact ⟨_, p2, rfl, rfl, ble_true (by kernel_rfl)⟩
  refine law_call_glob (lf := big) mixed tbl_ok e_l1_JsonWrites c_l1_JsonWrites 90 (l := [v]) ?_
  obtain ⟨S, Q, L, φ', h', a, b, c, R', le, F', K, rv, hA, hB, hC⟩ := can_ask (t0 := Ty_Sl_string) (t1 := Ty_Sl_Sl_api_Json) (t2 := Ty_Sl_string) (by kernel_rfl) (by kernel_rfl) (by kernel_rfl) (by kernel_rfl) (by kernel_rfl) cS cL cS hv hr hw φ2 h2 R2 F2
  refine ⟨φ', h', vl [.x .agg (vl [a, b, c]) V.nil], R', F', hg2.mono le, .cons rv .nil, ?_⟩
  have hp0 : hget Pg h2.tr = .pin 0 0 0 := (o2.2 Pg (by decide)).trans ((o1.2 Pg (by decide)).trans rfl)
  have hp : Pin h' := (K.2 Pg (by rw [n2]; decide)).trans hp0
  have hn : 3 ≤ h'.next := by have := K.1; omega
  have hq : Pg < h'.next := Nat.lt_of_lt_of_le (by decide) hn
  have e1 : ErrAt h' 1 := errAt_bk ((B1.only o2 (by decide)).eq (K.2 1 (by omega)))
  have e2 : ErrAt h' 2 := errAt_bk (B2.eq (K.2 2 (by omega)))
  have := JsonWrites_w (n := 63) hA hB hC hp hq e1 e2 (by omega) (k := fun v _ => onT v fun b => b) (fun _ => rfl)
  rw [run_succ, tbl_l1_JsonWrites] at this
  exact this
theorem jsonWrites_lifted (os : Os) (started : os.Started) (H : Type) (enc : TypeId × Value → H) :
    ReturnsInHanded {} Tryz.checked os 3 .any (fun w args => (Rows.jsonWritesSpec.pre enc Tryz.prog Tryz.f3 Rows.jsonWritesRow.domain false w args ∧ laidMetH Tryz.prog Rows.jsonWritesRow.laid w) ∧ sizedMet enc Tryz.prog Tryz.f3 (OpenSpec.ofChange Rows.jsonWritesSpec) false w args)
      (Rows.jsonWritesSpec.post enc Tryz.prog Tryz.f3 false true false false) := by
  refine law_lifted_laid3 (C := Tryz.checked) (t := 25) (tb := 4) (by kernel_rfl) started (by kernel_rfl) Tryz.func3
    (ChangeSpec.witness_at (enc := enc) (C := Tryz.checked) (os := os) (X := fun w _ => laidMetH Tryz.prog Rows.jsonWritesRow.laid w) false (laidWorldS Tryz.prog os Rows.jsonWritesRow.laid) #[.agg #[.slice none 0 0, .slice none 0 0, .slice none 0 0]] 8
      (laidWorldS_os _ _ _) (by kernel_rfl) (by kernel_rfl) (by kernel_rfl) (by kernel_rfl) (by kernel_rfl) (jsonWrites_laid os _))
    rfl rfl (by kernel_rfl) rfl (fun _ => rfl) (by kernel_rfl) (by kernel_rfl) (of_decide_eq_true (by kernel_rfl)) ?_
  intro W base v d hX hv hrd hwt
  exact jsonWrites_call (ten_tab (tab_of_laid hX rfl)) (reads_of_laid hX rfl rfl) (reads_of_laid hX rfl rfl) hv hrd hwt

end Go.Proofs.YtacpnpdggbfkgaaGreatDoor
