/- The abstract machine: functions. Conditions: none. -/
import Derived.Test.YtacpnpdggbfkgaaAvmSound
set_option linter.unusedVariables false
namespace Go.Avm
noncomputable section
/-- arguments laid into a frame -/
def initE (N : Fr) (l : V) : Nat → E → (E → Bool) → Bool := V.rec (motive := fun _ => Nat → E → (E → Bool) → Bool) (fun _ _ _ _ => false) (fun _ _ _ _ => false) (fun _ _ _ _ => false) (fun _ _ _ _ _ => false) (fun _ _ _ _ _ _ _ => false) (fun _ _ _ _ _ _ _ _ => false)
  (fun g hd _ _ ih i e k => Tag.rec (motive := fun _ => Bool) (fun _ _ => false) false false false false false false false false (ih (i + 1) (putE N i hd e) k) (k e) (fun _ => false) (fun _ => false) (fun _ => false) false false false g) l
/-- results -/
def resL (N : Fr) : List ResultVar → Option (E → V)
  | [] => some fun _ => V.nil
  | .tmp t :: r => if t < N.n then (match resL N r with | some q => some fun e => .x .cons (getE N t e) (q e) | none => none) else none
  | .cell _ _ :: _ => none
def resE (N : Fr) : List ResultVar → Option (E → V)
  | [.tmp t] => if t < N.n then some (getE N t) else none
  | l => match resL N l with | some q => some fun e => .x .tup (q e) V.nil | none => none
/-- an exit that leaves the body -/
def finK (q : E → V) (k : V → H → Bool) (x : X) (e : E) (h : H) : Bool := X.rec (motive := fun _ => Bool) (k (q e) h) (fun _ => false) (k (q e) h) x
/-- a body, called -/
def bodyF (N : Fr) (m : M) (q : E → V) : V → H → (V → H → Bool) → Bool := fun l h k => both (Nat.ble (vlen l) N.n) (initE N l 0 e0 fun e => m e h fun x e' h' => finK q k x e' h')
def noF : V → H → (V → H → Bool) → Bool := fun _ _ _ => false

variable (P : Program) (G : Nat → Bool) (LF : Nat → List Nat) (cf : CallF) (lf : Nat)
def fnF (f : Nat) : V → H → (V → H → Bool) → Bool := match P.funcs[f]? with
  | some fn => if fn.name == "runtime.NumGoroutine" then noF else if (LF f).length ≤ 64 then (match fn.body, resE ⟨fn.ntmps, LF f⟩ fn.results.toList with
    | some c, some q => bodyF ⟨fn.ntmps, LF f⟩ (exec P G cf lf ⟨fn.ntmps, LF f⟩ c) q
    | _, _ => noF) else noF
  | none => noF
end

variable {P : Program} {G : Nat → Bool} {LF : Nat → List Nat} {cf : CallF} {lf : Nat}

theorem initE_ok {φ : Phi} {N : Fr} (hN : N.l.length ≤ 64) : ∀ {l : V} {cs : List Value}, RL φ l cs → ∀ (i : Nat) (e : E) (k : E → Bool), initE N l i e k = true → ∃ e', k e' = true ∧ (∀ t, (t < i ∨ i + cs.length ≤ t) → getE N t e' = getE N t e) ∧ ∀ (j : Nat) c, cs[j]? = some c → RV φ (getE N (i + j) e') c
  | _, _, .nil, i, e, k, h => ⟨e, h, fun t _ => rfl, fun j c hj => by simp at hj⟩
  | _, _, .cons (r := r) ha hb, i, e, k, h => by
    obtain ⟨e', h1, h2, h3⟩ := initE_ok hN hb (i + 1) (putE N i _ e) k h
    refine ⟨e', h1, fun t ht => ?_, fun j c hj => ?_⟩
    · simp only [List.length_cons] at ht
      rw [h2 t (by omega), getE_putE _ _ _ _ _ hN, if_neg (by omega)]
    · cases j with
      | zero =>
        simp at hj; subst hj
        rw [Nat.add_zero, h2 i (by omega), getE_putE _ _ _ _ _ hN, if_pos rfl]; exact ha
      | succ j =>
        have := h3 j c (by simpa using hj)
        rw [show i + (j + 1) = i + 1 + j from by omega]; exact this

def resSem (tmps : Array Value) : ResultVar → Sem Value
  | .tmp t => pure (tmps.getD t undef)
  | .cell c t => do loadVar t (← asAddr (tmps.getD c undef))
theorem results_eq (fn : Func) (tmps : Array Value) : results fn tmps = (do let vs ← fn.results.mapM (resSem tmps); pure (if h : vs.size = 1 then vs[0] else .tuple vs)) := by
  unfold results
  have : (fun | .tmp t => pure (tmps.getD t undef) | .cell a t => do loadVar t (← asAddr (tmps.getD a undef)) : ResultVar → Sem Value) = resSem tmps := by funext x; cases x <;> rfl
  rw [← this]; rfl

theorem resL_ok {φ : Phi} {N : Fr} {e : E} {a : Act} (r : RE φ N e a) (w : World) : ∀ (l : List ResultVar) (q : E → V), resL N l = some q → ∃ vs : List Value, (l.mapM (resSem a.tmps)).run P w = .ok vs w ∧ RL φ (q e) vs ∧ vs.length = l.length
  | [], q, h => by simp [resL] at h; subst h; exact ⟨[], rfl, .nil, rfl⟩
  | .cell _ _ :: _, q, h => by simp [resL] at h
  | .tmp t :: rest, q, h => by
    simp only [resL] at h
    split at h
    · rename_i ht
      split at h
      · rename_i q' hq
        simp only [Option.some.injEq] at h; subst h
        obtain ⟨vs, h1, h2, h3⟩ := resL_ok r w rest q' hq
        obtain ⟨v, e1, e2⟩ := r.at_ t ht
        have hv : a.tmps.getD t undef = v := by rw [Array.getD_eq_getD_getElem?, e1]; rfl
        refine ⟨v :: vs, ?_, .cons e2 h2, by simp [h3]⟩
        rw [List.mapM_cons, Sem.run_bind]
        simp only [resSem, Sem.run_pure, Result.andThen_ok, hv]
        rw [Sem.run_bind, h1]; rfl
      · simp at h
    · simp at h

theorem results_ok {φ : Phi} {N : Fr} {e : E} {a : Act} (r : RE φ N e a) (w : World) {fn : Func} {q : E → V} (h : resE N fn.results.toList = some q) : ∃ v, (results fn a.tmps).run P w = .ok v w ∧ RV φ (q e) v := by
  have hm : ∀ vs : List Value, (fn.results.toList.mapM (resSem a.tmps)).run P w = .ok vs w →
      (results fn a.tmps).run P w = .ok (if h : (⟨vs⟩ : Array Value).size = 1 then (⟨vs⟩ : Array Value)[0] else .tuple ⟨vs⟩) w := fun vs hvs => by
    rw [results_eq, Sem.run_bind, Array.mapM_eq_mapM_toList, Sem.run_map, hvs]
    rfl
  unfold resE at h
  split at h
  · rename_i t hl
    split at h
    · rename_i ht
      simp only [Option.some.injEq] at h; subst h
      obtain ⟨v, e1, e2⟩ := r.at_ t ht
      have hv : a.tmps.getD t undef = v := by rw [Array.getD_eq_getD_getElem?, e1]; rfl
      refine ⟨v, ?_, e2⟩
      rw [hm [v] (by rw [hl, List.mapM_cons, Sem.run_bind]; simp [hv, resSem])]
      rfl
    · simp at h
  · rename_i hne
    split at h
    · rename_i q' hq
      simp only [Option.some.injEq] at h; subst h
      obtain ⟨vs, h1, h2, h3⟩ := resL_ok (P := P) r w _ q' hq
      refine ⟨.tuple ⟨vs⟩, ?_, .tup h2⟩
      rw [hm vs h1]
      have : ¬ (⟨vs⟩ : Array Value).size = 1 := by
        intro hs
        have hs : vs.length = 1 := hs
        rw [h3] at hs
        cases hl : fn.results.toList with
        | nil => rw [hl] at hs; simp at hs
        | cons x rest =>
          rw [hl] at hs
          have : rest = [] := by simpa using hs
          subst this
          cases x with
          | tmp t => exact hne t hl
          | cell c t => rw [hl] at hq; simp [resL] at hq
      rw [dif_neg this]
    · simp at h

theorem fnF_ok (hcf : CallS P G cf) {f : Nat} {l : V} {h : H} {k : V → H → Bool} (hm : fnF P G LF cf lf f l h k = true) {φ : Phi} {w : World} {args : List Value} (hg : GlobOk P G φ) (hl : RL φ l args) (R : Rel φ h w) :
    (∀ w, (callFunc f ⟨args⟩).run P w = .ok (.enter f ⟨args⟩) w) ∧ Calls P f ⟨args⟩ w fun e w' => ∃ v c h' φ', e = .returned c ∧ k v h' = true ∧ RV φ' v c ∧ Rel φ' h' w' ∧ Ext φ h.tr w φ' h'.tr w' := by
  unfold fnF at hm
  cases hf : P.funcs[f]? with
  | none => rw [hf] at hm; simp [noF] at hm
  | some fn =>
    rw [hf] at hm
    simp only at hm
    split at hm
    · simp [noF] at hm
    rename_i hname
    split at hm
    rotate_left
    · simp [noF] at hm
    rename_i hN
    cases hb : fn.body with
    | none => rw [hb] at hm; simp [noF] at hm
    | some c =>
      cases hq : resE ⟨fn.ntmps, LF f⟩ fn.results.toList with
      | none => rw [hb, hq] at hm; simp [noF] at hm
      | some q =>
        rw [hb, hq] at hm
        simp only at hm
        obtain ⟨h1, h2⟩ := both_true hm
        have h1 := ble_true h1
        rw [vlen_rel hl] at h1
        dsimp only at h1
        obtain ⟨e', h3, h4, h5⟩ := initE_ok (N := ⟨fn.ntmps, LF f⟩) hN hl 0 e0 _ h2
        constructor
        · intro w
          unfold callFunc
          rw [Sem.run_bind, run_program]
          simp only [Result.andThen_ok, hf]
          rw [if_neg hname]
          rw [if_neg (by rw [hb]; simp)]
          rfl
        · refine calls_of_wp hf hb ?_
          have hsz : (({ tmps := (⟨args⟩ : Array Value) ++ Array.replicate (fn.ntmps - (⟨args⟩ : Array Value).size) undef, defers := [] } : Act)).tmps.size = fn.ntmps := by
            show ((⟨args⟩ : Array Value) ++ Array.replicate (fn.ntmps - args.length) undef).size = fn.ntmps
            rw [Array.size_append, Array.size_replicate]
            show args.length + _ = _
            omega
          have r : RE φ ⟨fn.ntmps, LF f⟩ e' { tmps := (⟨args⟩ : Array Value) ++ Array.replicate (fn.ntmps - (⟨args⟩ : Array Value).size) undef, defers := [] } := by
            refine ⟨hsz, hN, fun t ht => ?_⟩
            dsimp only at ht
            by_cases hta : t < args.length
            · refine ⟨args[t], ?_, ?_⟩
              · show ((⟨args⟩ : Array Value) ++ _)[t]? = _
                rw [Array.getElem?_append_left (by exact hta)]
                simp [hta]
              · have := h5 t _ (List.getElem?_eq_getElem hta)
                rw [Nat.zero_add] at this; exact this
            · refine ⟨undef, ?_, ?_⟩
              · show ((⟨args⟩ : Array Value) ++ Array.replicate (fn.ntmps - args.length) undef)[t]? = _
                rw [Array.getElem?_append_right (by show args.length ≤ t; omega)]
                show (Array.replicate (fn.ntmps - args.length) undef)[t - args.length]? = _
                rw [Array.getElem?_replicate, if_pos (by omega)]
              · rw [h4 t (by omega)]
                rcases getE_e0 ⟨fn.ntmps, LF f⟩ t with q | q
                · rw [q]; exact .undef
                · rw [q]; exact .any
          refine wp_mono (exec_ok hcf lf c e' h _ h3 φ w _ hg r R) ?_
          rintro ex a' w' ⟨z, e2, h', φ', hz, hK, r', R', X, hd⟩
          obtain ⟨v, hv, rv⟩ := results_ok (P := P) r' w' hq
          cases z with
          | n =>
            cases ex <;> simp [xr] at hz
            exact ⟨hd, v, hv, _, _, h', φ', rfl, hK, rv, R', X⟩
          | r =>
            cases ex <;> simp [xr] at hz
            exact ⟨hd, v, hv, _, _, h', φ', rfl, hK, rv, R', X⟩
          | x i => exact Bool.noConfusion (show false = true from hK)

/-- one level of calls on top of another one -/
theorem callS_fnF (hcf : CallS P G cf) {cf' : CallF} (h : ∀ f l h k, cf' f l h k = true → fnF P G LF cf lf f l h k = true) : CallS P G cf' := by
  intro f l hh k hm φ w args hg hl R o a next Q hnext
  obtain ⟨h1, h2⟩ := fnF_ok hcf (h _ _ _ _ hm) hg hl R
  rw [h1]
  rw [Oper.upon_enter]
  refine h2.mono ?_
  rintro e w' ⟨v, c, h', φ', rfl, hk, rv, R', X⟩
  exact hnext v c h' φ' w' hk rv R' X

theorem callS_no : CallS P G (fun _ _ _ _ => false) := fun f l h k hm => by simp at hm

/-- calls, to a depth -/
noncomputable def run (t : CallF → CallF) (n : Nat) : CallF := Nat.rec (motive := fun _ => CallF) (fun _ _ _ _ => false) (fun _ ih => t ih) n
theorem run_ok {t : CallF → CallF} (h : ∀ cf f l h k, t cf f l h k = true → fnF P G LF cf lf f l h k = true) : ∀ n, CallS P G (run t n)
  | 0 => callS_no
  | n + 1 => callS_fnF (run_ok h n) (h _)

end Go.Avm
