/- The abstract machine: functions. Conditions: none. -/
import Derived.Test.YtacpnpdggbfkgaaDoorBvmSound
set_option linter.unusedVariables false
namespace Go.Bvm
variable {P : Program} {G : Nat → Bool} {LF : Nat → List Nat} {OF : Nat → Nat → Option (Nat × List Od)} {cf : CallF} {lf : Nat}

theorem getT_c (N : Fr) (t u : Nat) (v : V) (r : TL) (e : L8) : getT N t (.c u v r) e = if u = t then v else getT N t r e := rfl

theorem argsK_ok {φ : Phi} {N : Fr} (hN : N.l.length ≤ 64) : ∀ (n i : Nat) (ρ : TL) (e : L8) (l : V) (cs : List Value) (k : TL → L8 → Bool), argsK N n i ρ e l k = true → RL φ l cs →
    cs.length = n ∧ ∃ ρ' e', k ρ' e' = true ∧ (∀ t, t < i ∨ i + n ≤ t → getT N t ρ' e' = getT N t ρ e ∧ getT N t .n e' = getT N t .n e) ∧ ∀ (j : Nat) c, cs[j]? = some c → RV φ (getT N (i + j) ρ' e') c ∧ RV φ (getT N (i + j) .n e') c
  | 0, i, ρ, e, l, cs, k, h, r => by
    obtain ⟨a, b, rfl, hk⟩ := onNil_true h
    cases r
    exact ⟨rfl, ρ, e, hk, fun t _ => ⟨rfl, rfl⟩, fun j c hj => by simp at hj⟩
  | n + 1, i, ρ, e, l, cs, k, h, r => by
    obtain ⟨a, b, rfl, hk⟩ := onCons_true h
    cases r with
    | cons ha hb =>
      rename_i v rest
      have key : ∀ e1 : L8, (∀ t, t ≠ i → ∀ ρ, getT N t ρ e1 = getT N t ρ e) → RV φ (getT N i .n e1) v → argsK N n (i + 1) (.c i a ρ) e1 b k = true →
          (v :: rest).length = n + 1 ∧ ∃ ρ' e', k ρ' e' = true ∧ (∀ t, t < i ∨ i + (n + 1) ≤ t → getT N t ρ' e' = getT N t ρ e ∧ getT N t .n e' = getT N t .n e) ∧ ∀ (j : Nat) c, (v :: rest)[j]? = some c → RV φ (getT N (i + j) ρ' e') c ∧ RV φ (getT N (i + j) .n e') c := by
        intro e1 hne hv hk1
        obtain ⟨h1, ρ', e', h2, h3, h4⟩ := argsK_ok hN n (i + 1) _ e1 b rest k hk1 hb
        refine ⟨by simp [h1], ρ', e', h2, fun t ht => ?_, fun j c hj => ?_⟩
        · obtain ⟨g1, g2⟩ := h3 t (by omega)
          rw [g1, g2, getT_c, if_neg (by omega)]
          exact ⟨hne t (by omega) _, hne t (by omega) _⟩
        · cases j with
          | zero =>
            simp at hj; subst hj
            obtain ⟨g1, g2⟩ := h3 i (by omega)
            rw [Nat.add_zero, g1, g2, getT_c, if_pos rfl]
            exact ⟨ha, hv⟩
          | succ j =>
            have := h4 j c (by simpa using hj)
            rw [show i + (j + 1) = i + 1 + j from by omega]; exact this
      split at hk
      · rename_i j hj
        have hj64 := idx_lt _ _ _ hj
        refine key _ (fun t ht ρ => getT_upd N i a j hN hj t e ρ ht) ?_ hk
        unfold getT
        rw [hj]; simp only
        rw [getL_updL _ _ _ _ (by omega) (by omega), if_pos rfl]; exact ha
      · rename_i hj
        refine key _ (fun t ht ρ => rfl) ?_ hk
        unfold getT
        rw [hj]; exact .any

def resSem (tmps : Array Value) : ResultVar → Sem Value
  | .tmp t => pure (tmps.getD t undef)
  | .cell c t => do loadVar t (← asAddr (tmps.getD c undef))
theorem results_eq (fn : Func) (tmps : Array Value) : results fn tmps = (do let vs ← fn.results.mapM (resSem tmps); pure (if h : vs.size = 1 then vs[0] else .tuple vs)) := by
  unfold results
  have : (fun | .tmp t => pure (tmps.getD t undef) | .cell a t => do loadVar t (← asAddr (tmps.getD a undef)) : ResultVar → Sem Value) = resSem tmps := by funext x; cases x <;> rfl
  rw [← this]; rfl

theorem ldV_ok {φ : Phi} {t : TypeId} {a : V} {h : H} {k : V → Bool} (hm : ldV P t a h k = true) (ht : hasT P t = true) {c : Value} {w : World} (rc : RV φ a c) (R : Rel φ h w) : ∃ L cv v, c = .pointer (some L) ∧ (loadVar t L).run P w = .ok cv w ∧ RV φ v cv ∧ k v = true := by
  obtain ⟨d, hd⟩ := hasT_under ht
  obtain ⟨i, hi⟩ := under_info hd
  unfold ldV at hm
  cases hone : oneT P t with
  | true =>
    rw [hone, if_pos rfl] at hm
    obtain ⟨id, off, lim, ver, e1, h2⟩ := onP_true hm
    obtain ⟨cc, size, bver, frz, elem, ex, own, e2, h3⟩ := onBk_true h2
    obtain ⟨h4, h5⟩ := both_true h3
    obtain rfl := beq_true h4
    rw [e1] at rc
    obtain ⟨l, e3, hl, e4⟩ := rc.inv_p
    obtain ⟨h6, h7⟩ := both_true h5
    have h6 := ble_true h6
    obtain ⟨v, hv, rv, _⟩ := R.cell e3 e2 (i := off) (by omega)
    refine ⟨_, v, _, e4, ?_, rv, h7⟩
    unfold loadVar
    rw [Sem.run_bind, run_isAgg hd, hone]
    show (load _).run P w = _
    rw [run_load, hv]
  | false =>
    rw [hone, if_neg (by simp)] at hm
    obtain ⟨id, off, lim, ver, e1, h2⟩ := onP_true hm
    obtain ⟨cc, size, bver, frz, elem, ex, own, e2, h3⟩ := onBk_true h2
    obtain ⟨h4, h5⟩ := both_true h3
    obtain rfl := beq_true h4
    rw [e1] at rc
    obtain ⟨l, e3, hl, e4⟩ := rc.inv_p
    obtain ⟨h6, h7⟩ := both_true h5
    have h6 := ble_true h6
    simp only [Nat.add_eq] at h6
    obtain ⟨q, q1, q2, q3, q4⟩ := cells_rel (φ := φ) (w := w) (c := cc) (B := l.B) (o := l.base) (sizeT P t) off (fun j hj => by
      rw [Nat.add_assoc]; exact R.cell e3 e2 (i := off + j) (by omega))
    refine ⟨_, .agg ⟨q⟩, _, e4, ?_, .agg q2 q3, h7⟩
    unfold loadVar
    rw [Sem.run_bind, run_isAgg hd, hone]
    show (do pure (.agg (← loadCells ⟨l.B, l.base + off, none⟩ (← sizeOf t))) : Sem Value).run P w = _
    rw [Sem.run_bind, run_size hi]
    simp only [Result.andThen_ok]
    rw [Sem.run_bind, ← q1, run_loadCells_list w ⟨l.B, l.base + off, none⟩ q (fun j v hj => by rw [add_addr]; exact q4 j v hj)]
    rfl

theorem resL_ok {φ : Phi} {N : Fr} {e : L8} {a : Act} (r : RE φ N .n e a) {h : H} {w : World} (R : Rel φ h w) : ∀ (l : List ResultVar) (q : QF) (k : V → Bool), resL P N l = some q → q e h k = true → ∃ (vs : List Value) (v : V), (l.mapM (resSem a.tmps)).run P w = .ok vs w ∧ RL φ v vs ∧ vs.length = l.length ∧ k v = true
  | [], q, k, hq, hm => by simp only [resL, Option.some.injEq] at hq; subst hq; exact ⟨[], _, rfl, .nil, rfl, hm⟩
  | .cell c t :: rest, q, k, hq, hm => by
    simp only [resL] at hq
    split at hq
    · rename_i ht
      split at hq
      · rename_i q' hq'
        simp only [Option.some.injEq] at hq; subst hq
        obtain ⟨v, e1, e2, _⟩ := r.at_ c ht.1
        have hv : a.tmps.getD c undef = v := by rw [Array.getD_eq_getD_getElem?, e1]; rfl
        obtain ⟨L, cv, u, g1, g2, g3, g4⟩ := ldV_ok hm ht.2 e2 R
        obtain ⟨vs, z, h1, h2, h3, h4⟩ := resL_ok r R rest q' _ hq' g4
        refine ⟨cv :: vs, _, ?_, .cons g3 h2, by simp [h3], h4⟩
        rw [List.mapM_cons, Sem.run_bind]
        have : (resSem a.tmps (.cell c t)).run P w = .ok cv w := by
          simp only [resSem, hv, g1]
          rw [Sem.run_bind]
          show (loadVar t L).run P w = _
          exact g2
        rw [this]
        simp only [Result.andThen_ok]
        rw [Sem.run_bind, h1]; rfl
      · simp at hq
    · simp at hq
  | .tmp t :: rest, q, k, hq, hm => by
    simp only [resL] at hq
    split at hq
    · rename_i ht
      split at hq
      · rename_i q' hq'
        simp only [Option.some.injEq] at hq; subst hq
        obtain ⟨vs, z, h1, h2, h3, h4⟩ := resL_ok r R rest q' _ hq' hm
        obtain ⟨v, e1, e2, _⟩ := r.at_ t ht
        have hv : a.tmps.getD t undef = v := by rw [Array.getD_eq_getD_getElem?, e1]; rfl
        refine ⟨v :: vs, _, ?_, .cons e2 h2, by simp [h3], h4⟩
        rw [List.mapM_cons, Sem.run_bind]
        simp only [resSem, Sem.run_pure, Result.andThen_ok, hv]
        rw [Sem.run_bind, h1]; rfl
      · simp at hq
    · simp at hq

theorem results_ok {φ : Phi} {N : Fr} {e : L8} {a : Act} (r : RE φ N .n e a) {h : H} {w : World} (R : Rel φ h w) {fn : Func} {q : QF} {k : V → Bool} (hq : resE P N fn.results.toList = some q) (hk : q e h k = true) : ∃ c v, (results fn a.tmps).run P w = .ok c w ∧ RV φ v c ∧ k v = true := by
  have hm : ∀ vs : List Value, (fn.results.toList.mapM (resSem a.tmps)).run P w = .ok vs w →
      (results fn a.tmps).run P w = .ok (if h : (⟨vs⟩ : Array Value).size = 1 then (⟨vs⟩ : Array Value)[0] else .tuple ⟨vs⟩) w := fun vs hvs => by
    rw [results_eq, Sem.run_bind, Array.mapM_eq_mapM_toList, Sem.run_map, hvs]
    rfl
  unfold resE at hq
  split at hq
  · rename_i t hl
    split at hq
    · rename_i ht
      simp only [Option.some.injEq] at hq; subst hq
      obtain ⟨v, e1, e2, _⟩ := r.at_ t ht
      have hv : a.tmps.getD t undef = v := by rw [Array.getD_eq_getD_getElem?, e1]; rfl
      refine ⟨v, _, ?_, e2, hk⟩
      rw [hm [v] (by rw [hl, List.mapM_cons, Sem.run_bind]; simp [hv, resSem])]
      rfl
    · simp at hq
  · rename_i c t hl
    split at hq
    · rename_i ht
      simp only [Option.some.injEq] at hq; subst hq
      obtain ⟨v, e1, e2, _⟩ := r.at_ c ht.1
      have hv : a.tmps.getD c undef = v := by rw [Array.getD_eq_getD_getElem?, e1]; rfl
      obtain ⟨L, cv, u, g1, g2, g3, g4⟩ := ldV_ok hk ht.2 e2 R
      have : (resSem a.tmps (.cell c t)).run P w = .ok cv w := by
        simp only [resSem, hv, g1]
        rw [Sem.run_bind]
        show (loadVar t L).run P w = _
        exact g2
      refine ⟨cv, u, ?_, g3, g4⟩
      rw [hm [cv] (by rw [hl, List.mapM_cons, Sem.run_bind, this]; rfl)]
      rfl
    · simp at hq
  · rename_i hne hne2
    split at hq
    · rename_i q' hq'
      simp only [Option.some.injEq] at hq; subst hq
      obtain ⟨vs, z, h1, h2, h3, h4⟩ := resL_ok (P := P) r R _ q' _ hq' hk
      refine ⟨.tuple ⟨vs⟩, _, ?_, .tup h2, h4⟩
      rw [hm vs h1]
      have : ¬ (⟨vs⟩ : Array Value).size = 1 := by
        intro hs
        have hs : vs.length = 1 := hs
        rw [h3] at hs
        cases hl : fn.results.toList with
        | nil => rw [hl] at hs; simp at hs
        | cons x rest =>
          rw [hl] at hs
          have : rest = [] := by simpa using hs
          subst this
          cases x with
          | tmp t => exact hne t hl
          | cell c t => exact hne2 c t hl
      rw [dif_neg this]
    · simp at hq

/-- the check of a function's regions -/
noncomputable def chkF (P : Program) (LF : Nat → List Nat) (OF : Nat → Nat → Option (Nat × List Od)) (f : Nat) : Bool := match P.funcs[f]? with
  | some fn => match fn.body with
    | some c => chkC P ⟨fn.ntmps, LF f, OF f⟩ c
    | none => true
  | none => true
theorem fnF_ok (hmix : P.follows .mixedOrders = true) (hcf : CallS P G cf) (hr : CallRet cf) (hfr : ∀ r, CallFrm r cf) {f : Nat} (hchk : chkF P LF OF f = true) {l : V} {h : H} {k : KV} (hm : fnF P G LF OF cf lf f l h k = true) {φ : Phi} {w : World} {args : List Value} (hg : GlobOk P G φ) (hl : RL φ l args) (R : Rel φ h w) :
    (∀ w, (callFunc f ⟨args⟩).run P w = .ok (.enter f ⟨args⟩) w) ∧ Calls P f ⟨args⟩ w fun e w' => ∃ c, e = .returned c ∧ FPost k φ h w c w' := by
  unfold fnF at hm
  cases hf : P.funcs[f]? with
  | none => rw [hf] at hm; simp [noF] at hm
  | some fn =>
    rw [hf] at hm
    simp only at hm
    split at hm
    · simp [noF] at hm
    rename_i hname
    split at hm
    rotate_left
    · simp [noF] at hm
    rename_i hNn
    obtain ⟨hN, hnt⟩ := hNn
    cases hb : fn.body with
    | none => rw [hb] at hm; simp [noF] at hm
    | some c =>
      cases hq : resE P ⟨fn.ntmps, LF f, OF f⟩ fn.results.toList with
      | none => rw [hb, hq] at hm; simp [noF] at hm
      | some q =>
        rw [hb, hq] at hm
        simp only at hm
        obtain ⟨h1, ρ', e', h3, h4, h5⟩ := argsK_ok (N := ⟨fn.ntmps, LF f, OF f⟩) hN _ 0 .n e0 l args _ hm hl
        constructor
        · intro w
          unfold callFunc
          rw [Sem.run_bind, run_program]
          simp only [Result.andThen_ok, hf]
          rw [if_neg hname]
          rw [if_neg (by rw [hb]; simp)]
          rfl
        · refine calls_of_wp hf hb ?_
          have hsz : (({ tmps := (⟨args⟩ : Array Value) ++ Array.replicate (fn.ntmps - (⟨args⟩ : Array Value).size) undef, defers := [] } : Act)).tmps.size = fn.ntmps := by
            show ((⟨args⟩ : Array Value) ++ Array.replicate (fn.ntmps - args.length) undef).size = fn.ntmps
            rw [Array.size_append, Array.size_replicate]
            show args.length + _ = _
            omega
          have r : RE φ ⟨fn.ntmps, LF f, OF f⟩ ρ' e' { tmps := (⟨args⟩ : Array Value) ++ Array.replicate (fn.ntmps - (⟨args⟩ : Array Value).size) undef, defers := [] } := by
            refine ⟨hsz, hN, fun t ht => ?_⟩
            dsimp only at ht
            by_cases hta : t < args.length
            · refine ⟨args[t], ?_, ?_⟩
              · show ((⟨args⟩ : Array Value) ++ _)[t]? = _
                rw [Array.getElem?_append_left (by exact hta)]
                simp [hta]
              · have := h5 t _ (List.getElem?_eq_getElem hta)
                rw [Nat.zero_add] at this; exact this
            · refine ⟨undef, ?_, ?_⟩
              · show ((⟨args⟩ : Array Value) ++ Array.replicate (fn.ntmps - args.length) undef)[t]? = _
                rw [Array.getElem?_append_right (by show args.length ≤ t; omega)]
                show (Array.replicate (fn.ntmps - args.length) undef)[t - args.length]? = _
                rw [Array.getElem?_replicate, if_pos (by omega)]
              · obtain ⟨g1, g2⟩ := h4 t (by omega)
                rw [g1, g2]
                rcases getT_e0 ⟨fn.ntmps, LF f, OF f⟩ t with q | q
                · rw [q]; exact ⟨.undef, .undef⟩
                · rw [q]; exact ⟨.any, .any⟩
          refine wp_mono (exec_ok hmix hcf hr hfr lf c ρ' (by unfold chkF at hchk; rw [hf] at hchk; dsimp only at hchk; rw [hb] at hchk; exact hchk) e' h _ h3 φ w _ hg r R) ?_
          rintro ex a' w' ⟨z, e2, h', φ', hz, hK, r', R', X, hd⟩
          cases z with
          | n =>
            cases ex <;> simp [xr] at hz
            obtain ⟨c, v, hv, rv, hk⟩ := results_ok (P := P) r' R' hq hK
            exact ⟨hd, c, hv, _, rfl, _, h', φ', hk, rv, R', X⟩
          | r =>
            cases ex <;> simp [xr] at hz
            obtain ⟨c, v, hv, rv, hk⟩ := results_ok (P := P) r' R' hq hK
            exact ⟨hd, c, hv, _, rfl, _, h', φ', hk, rv, R', X⟩
          | x i => exact Bool.noConfusion (show false = true from hK)

/-- what a table says of one function -/
structure EntOk (P : Program) (G : Nat → Bool) (f : Nat) (A : CallF → V → H → KV → Bool) : Prop where
  ok : ∀ cf, CallS P G cf → CallRet cf → (∀ r, CallFrm r cf) → ∀ l h k, A cf l h k = true → ∀ φ w args, GlobOk P G φ → RL φ l args → Rel φ h w → OpRun P (callFunc f ⟨args⟩) w (FPost k φ h w)
  ret : ∀ cf, CallRet cf → ∀ l h, RetV (A cf l h)
  frm : ∀ cf, (∀ r, CallFrm r cf) → ∀ r l, FrmG r (fun h (k : V → H → Bool) => A cf l h k)
/-- what it says of all -/
structure TblOk (P : Program) (G : Nat → Bool) (t : CallF → CallF) : Prop where
  ok : ∀ cf, CallS P G cf → CallRet cf → (∀ r, CallFrm r cf) → CallS P G (t cf)
  ret : ∀ cf, CallRet cf → CallRet (t cf)
  frm : ∀ cf, (∀ r, CallFrm r cf) → ∀ r, CallFrm r (t cf)

theorem EntOk.no (f : Nat) : EntOk P G f (fun _ => noF) :=
  ⟨fun _ _ _ _ l h k hm => Bool.noConfusion (show false = true from hm), fun _ _ _ _ => .inl fun _ => rfl, fun _ _ _ _ => .no⟩
/-- a function is this term -/
def FnEq (P : Program) (G : Nat → Bool) (LF : Nat → List Nat) (OF : Nat → Nat → Option (Nat × List Od)) (f : Nat) (T : CallF → Nat → V → H → KV → Bool) : Prop := ∀ cf lf, fnF P G LF OF cf lf f = T cf lf
theorem EntOk.fn (hmix : P.follows .mixedOrders = true) {f : Nat} {T : CallF → Nat → V → H → KV → Bool} (e : FnEq P G LF OF f T) (hchk : chkF P LF OF f = true) (lf : Nat) : EntOk P G f (fun cf => T cf lf) where
  ok := fun cf h1 h2 h3 l h k hm φ w args hg hl R => by
    rw [← e cf lf] at hm
    obtain ⟨g1, g2⟩ := fnF_ok hmix h1 h2 h3 hchk hm hg hl R
    exact .inr (.inr ⟨f, ⟨args⟩, g1 w, g2⟩)
  ret := fun cf h1 l h => by rw [← e cf lf]; exact ret_fnF h1 f l h
  frm := fun cf h1 r l => by rw [← e cf lf]; exact frm_fnF (h1 r) f l
theorem TblOk.leaf {n : Nat} {T : CallF → V → H → KV → Bool} (e : EntOk P G n T) : TblOk P G (fun cf f => (bs (Nat.beq f n) (T cf) noF : V → H → KV → Bool)) where
  ok := fun cf h1 h2 h3 f l h k hm => by
    replace hm : (bs (Nat.beq f n) (T cf) noF : V → H → KV → Bool) l h k = true := hm
    cases hb : Nat.beq f n with
    | false => rw [hb] at hm; simp [noF] at hm
    | true => rw [hb] at hm; obtain rfl := beq_true hb; exact e.ok cf h1 h2 h3 l h k hm
  ret := fun cf h1 f l h => by
    show RetV ((bs (Nat.beq f n) (T cf) noF : V → H → KV → Bool) l h)
    cases hb : Nat.beq f n with
    | false => exact .inl fun _ => rfl
    | true => exact e.ret cf h1 l h
  frm := fun cf h1 r f l => by
    show FrmG r (fun h (k : V → H → Bool) => (bs (Nat.beq f n) (T cf) noF : V → H → KV → Bool) l h k)
    cases hb : Nat.beq f n with
    | false => exact .no
    | true => exact e.frm cf h1 r l
theorem TblOk.node (n : Nat) {A B : CallF → CallF} (a : TblOk P G A) (b : TblOk P G B) : TblOk P G (fun cf f => (bs (Nat.ble n f) (A cf f) (B cf f) : V → H → KV → Bool)) where
  ok := fun cf h1 h2 h3 f l h k hm => by
    replace hm : (bs (Nat.ble n f) (A cf f) (B cf f) : V → H → KV → Bool) l h k = true := hm
    cases hb : Nat.ble n f with
    | false => rw [hb] at hm; exact b.ok cf h1 h2 h3 f l h k hm
    | true => rw [hb] at hm; exact a.ok cf h1 h2 h3 f l h k hm
  ret := fun cf h1 f l h => by
    show RetV ((bs (Nat.ble n f) (A cf f) (B cf f) : V → H → KV → Bool) l h)
    cases hb : Nat.ble n f with
    | false => exact b.ret cf h1 f l h
    | true => exact a.ret cf h1 f l h
  frm := fun cf h1 r f l => by
    show FrmG r (fun h (k : V → H → Bool) => (bs (Nat.ble n f) (A cf f) (B cf f) : V → H → KV → Bool) l h k)
    cases hb : Nat.ble n f with
    | false => exact b.frm cf h1 r f l
    | true => exact a.frm cf h1 r f l

/-- calls, to a depth -/
noncomputable def run (t : CallF → CallF) (n : Nat) : CallF := Nat.rec (motive := fun _ => CallF) (fun _ _ _ _ => false) (fun _ ih => t ih) n
theorem run_ok {t : CallF → CallF} (h : TblOk P G t) : ∀ n, CallS P G (run t n) ∧ CallRet (run t n) ∧ ∀ r, CallFrm r (run t n)
  | 0 => ⟨fun f l h k hm => Bool.noConfusion (show false = true from hm), fun _ _ _ => .inl fun _ => rfl, fun _ _ _ => .no⟩
  | n + 1 => let ⟨a, b, c⟩ := run_ok h n; ⟨h.ok _ a b c, h.ret _ b, h.frm _ c⟩

end Go.Bvm
