/- The abstract machine: code, functions, laws. Conditions: stated in each theorem. -/
import Derived.Test.YtacpnpdggbfkgaaDoorBvm3
import Derived.ProofKit
import Derived.Laws.Externs
import Derived.Lib.Builder
import Derived.Lib.MakeNoZero
import Derived.LaidLaws
import Derived.LaidHandle
import Derived.SevenTiedAt
import Derived.JoinedOf
import Derived.KernelRfl
import Derived.StillTailTactics
import Derived.OrdersIn
import Derived.RangeFuncCalls
set_option linter.unusedVariables false
set_option linter.unusedSimpArgs false
set_option linter.unusedVariables false
namespace Go.Bvm
variable {P : Program} {G : Nat → Bool} {N : Fr}
theorem goR_ok {cf : CallF} (hcf : CallS P G cf) {ops : Array Oper} {i : Nat} {ρ : TL} {e : L8} {h : H} {k : KV} (hm : goR P G cf N ops i ρ e h k = true) {φ : Phi} {w : World} {a : Act} (hg : GlobOk P G φ) (r : RE φ N ρ e a) (R : Rel φ h w) (rest : List Nat) (Q : Exit → Act → World → Prop)
    (hnext : ∀ c w', FPost k φ h w c w' → wpOps P ops Q rest (a.put (dstR ops i) c) w') : wpOps P ops Q (i :: rest) a w := by
  unfold goR at hm
  simp only [wpOps]
  cases ho : ops[i]? with
  | none => rw [ho] at hm; simp at hm
  | some o =>
    rw [ho] at hm
    have hdst : dstR ops i = o.dst := by unfold dstR; rw [ho]
    rw [hdst] at hnext
    simp only at hm ⊢
    cases hgd : o.guard with
    | none =>
      rw [hgd] at hm
      rw [if_pos (by simp [Region.wanted, hgd])]
      exact .inl ((vop_ok hcf o hm hg (eval_func a) (opr_ok hg r) R).wp hnext)
    | some jb =>
      obtain ⟨j, b⟩ := jb
      rw [hgd] at hm
      simp only at hm
      cases hq : ops[j]? with
      | none => rw [hq] at hm; simp at hm
      | some q =>
        rw [hq] at hm
        simp only at hm
        cases hqd : q.dst with
        | none => rw [hqd] at hm; simp at hm
        | some g =>
          rw [hqd] at hm
          simp only at hm
          by_cases hgN : g < N.n
          case neg => rw [if_neg hgN] at hm; simp at hm
          rw [if_pos hgN] at hm
          obtain ⟨v, hv, rv, _⟩ := r.at_ g hgN
          have hy := yielded_of (ops := ops) hq hqd hv
          have yes : v = .bool b → vop P cf (opr P G N ρ e) o.op h k = true → (if Region.wanted o (yielded ops a.tmps) = true then o.wp P a w (wpOps P ops Q rest) Q ∨ o.asks P a w ∧ LetsOut Q else wpOps P ops Q rest (a.put o.dst undef) w) := fun hvb hk => by
            rw [if_pos (by unfold Region.wanted; rw [hgd]; show (yielded ops a.tmps j == some b) = true; rw [hy, hvb]; simp [boolOf])]
            exact .inl ((vop_ok hcf o hk hg (eval_func a) (opr_ok hg r) R).wp hnext)
          have no : (∀ t, v = .bool t → t = !b) → k V.u h = true → (if Region.wanted o (yielded ops a.tmps) = true then o.wp P a w (wpOps P ops Q rest) Q ∨ o.asks P a w ∧ LetsOut Q else wpOps P ops Q rest (a.put o.dst undef) w) := fun hne hk => by
            have : Region.wanted o (yielded ops a.tmps) = false := by
              unfold Region.wanted
              rw [hgd]
              show (yielded ops a.tmps j == some b) = false
              rw [hy]
              cases v with
              | bool z =>
                have := hne z rfl
                subst this
                cases b <;> rfl
              | _ => rfl
            rw [if_neg (by rw [this]; simp)]
            exact hnext undef w ⟨V.u, h, φ, hk, .undef, R, .refl _ _ _⟩
          cases b with
          | true =>
            rw [if_pos rfl] at hm
            rcases guardT_true hm with ⟨e1, hk⟩ | ⟨e1 | ⟨_, _, e1⟩, hk⟩
            · rw [e1] at rv; exact yes rv.inv_t hk
            · rw [e1] at rv; exact no (fun t ht => by rw [rv.inv_t] at ht; cases ht; rfl) hk
            · rw [e1] at rv; cases rv; exact no (fun t ht => by simp at ht) hk
          | false =>
            rw [if_neg (by simp)] at hm
            rcases guardF_true hm with ⟨e1, hk⟩ | ⟨e1 | ⟨_, _, e1⟩, hk⟩
            · rw [e1] at rv; exact yes rv.inv_t hk
            · rw [e1] at rv; exact no (fun t ht => by rw [rv.inv_t] at ht; cases ht; rfl) hk
            · rw [e1] at rv; cases rv; exact no (fun t ht => by simp at ht) hk
theorem runR_ok {cf : CallF} (hcf : CallS P G cf) {ops : Array Oper} (Q : Exit → Act → World → Prop) : ∀ (l : List Nat) {ρ : TL} {e : L8} {h : H} {K : KT}, runR P G cf N ops l ρ e h K = true → ∀ {φ : Phi} {w : World} {a : Act}, GlobOk P G φ → RE φ N ρ e a → Rel φ h w →
    (∀ ρ' e' h' φ' a' w', K ρ' e' h' = true → RE φ' N ρ' e' a' → Rel φ' h' w' → Ext φ h w φ' h' w' → a'.defers = a.defers → Q .normal a' w') → wpOps P ops Q l a w
  | [], ρ, e, h, K, hm, φ, w, a, hg, r, R, hQ => hQ ρ e h φ a w hm r R (.refl _ _ _) rfl
  | i :: rest, ρ, e, h, K, hm, φ, w, a, hg, r, R, hQ => goR_ok hcf hm hg r R rest Q fun c w' ⟨v, h', φ', hk, rv, R', X⟩ => by
      obtain ⟨ρ', e', hk', r'⟩ := (r.mono X.le).put hk rv
      refine runR_ok hcf Q rest hk' (hg.mono X.le) r' R' fun ρ2 e2 h2 φ2 a2 w2 hk2 r2 R2 X2 hd2 => hQ ρ2 e2 h2 φ2 a2 w2 hk2 r2 R2 (X.trans X2) (hd2.trans ?_)
      cases dstR ops i <;> rfl
def xr : X → Exit → Prop
  | .n, .normal => True
  | .x i, .exit j => i = j
  | .r, .ret => True
  | _, _ => False
def PostK (N : Fr) (K : KX) (φ : Phi) (h : H) (w : World) (d : List Deferred) : Exit → Act → World → Prop := fun x a' w' =>
  ∃ y e' h' φ', xr y x ∧ K y e' h' = true ∧ RE φ' N .n e' a' ∧ Rel φ' h' w' ∧ Ext φ h w φ' h' w' ∧ a'.defers = d
def CodeS (P : Program) (G : Nat → Bool) (N : Fr) (ρ : TL) (c : Code) (m : M) : Prop := ∀ e h K, m e h K = true → ∀ φ w a, GlobOk P G φ → RE φ N ρ e a → Rel φ h w → c.wp P (PostK N K φ h w a.defers) a w
theorem noM_ok {c : Code} {ρ : TL} : CodeS P G N ρ c (fun _ _ _ => false) := fun e h K hm => by simp at hm
theorem seqM_ok {x y : Code} {m n : M} {ρ : TL} (hx : CodeS P G N ρ x m) (hy : CodeS P G N .n y n) : CodeS P G N ρ (.seq x y) (seqM m n) := by
  intro e h K hm φ w a hg r R
  refine wp_seq (wp_mono (hx e h _ hm φ w a hg r R) ?_)
  rintro ex a' w' ⟨z, e', h', φ', hz, hK, r', R', X, hd⟩
  cases z with
  | n =>
    cases ex <;> simp [xr] at hz
    refine wp_mono (hy e' h' K hK φ' w' a' (hg.mono X.le) r' R') ?_
    rintro ex2 a2 w2 ⟨z2, e2, h2, φ2, hz2, hK2, r2, R2, X2, hd2⟩
    exact ⟨z2, e2, h2, φ2, hz2, hK2, r2, R2, X.trans X2, hd2.trans hd⟩
  | x i =>
    cases ex <;> simp [xr] at hz
    subst hz
    exact ⟨.x i, e', h', φ', rfl, hK, r', R', X, hd⟩
  | r =>
    cases ex <;> simp [xr] at hz
    exact ⟨.r, e', h', φ', trivial, hK, r', R', X, hd⟩
theorem condV_ok {c : Operand} {q : V} {x y : Code} {m n : M} {ρ : TL} {e : L8} {h : H} {K : KX} (hm : condV q (m e h K) (n e h K) = true) {φ : Phi} {w : World} {a : Act} (hc : opr P G N ρ e c = some q) (hg : GlobOk P G φ) (r : RE φ N ρ e a) (R : Rel φ h w) (hx : CodeS P G N ρ x m) (hy : CodeS P G N ρ y n) : (Code.cond c x y).wp P (PostK N K φ h w a.defers) a w := by
  have rc := opr_ok hg r _ _ hc
  cases q <;> first | exact Bool.noConfusion (show false = true from hm) | skip
  rename_i t
  have rc := rc.inv_t
  cases t with
  | true => exact wp_cond_true rc (hx e h K hm φ w a hg r R)
  | false => exact wp_cond_false rc (hy e h K hm φ w a hg r R)
theorem blockM_ok {i : Nat} {x : Code} {m : M} {ρ : TL} (hx : CodeS P G N ρ x m) : CodeS P G N ρ (.block i x) (blockM i m) := by
  intro e h K hm φ w a hg r R
  refine wp_block (wp_mono (hx e h _ hm φ w a hg r R) ?_)
  rintro ex a' w' ⟨z, e', h', φ', hz, hK, r', R', X, hd⟩
  cases z with
  | n => cases ex <;> simp [xr] at hz; exact ⟨.n, e', h', φ', trivial, hK, r', R', X, hd⟩
  | r => cases ex <;> simp [xr] at hz; exact ⟨.r, e', h', φ', trivial, hK, r', R', X, hd⟩
  | x j =>
    cases ex <;> simp [xr] at hz
    subst hz
    have hK : K (bs (Nat.beq j i) .n (.x j)) e' h' = true := hK
    simp only [Exit.inBlock]
    by_cases q : j = i
    · subst q
      rw [if_pos rfl]
      rw [Nat.beq_refl] at hK
      exact ⟨.n, e', h', φ', trivial, hK, r', R', X, hd⟩
    · rw [if_neg q]
      have : Nat.beq j i = false := by rw [← Bool.not_eq_true]; intro z; exact q (Nat.eq_of_beq_eq_true z)
      rw [this] at hK
      exact ⟨.x j, e', h', φ', rfl, hK, r', R', X, hd⟩
theorem loopM_ok {lf : Nat} {x : Code} {m : M} {ρ : TL} (hx : CodeS P G N .n x m) : CodeS P G N ρ (.loop x) (loopM lf m) := by
  intro e h K hm φ w a hg r R b k cs
  have key : ∀ n e h, loopM n m e h K = true → ∀ φ w a, GlobOk P G φ → RE φ N .n e a → Rel φ h w → ∃ ex a' w', PostK N K φ h w a.defers ex a' w' ∧ Arrives P (lone (b.at a (.code x :: .inLoop x :: k)) cs w) b k cs ex a' w' := by
    intro n
    induction n with
    | zero => intro e h hm; exact Bool.noConfusion (show false = true from hm)
    | succ n ih =>
      intro e h hm φ w a hg r R
      obtain ⟨ex, a1, w1, ⟨z, e', h', φ', hz, hK, r', R', X, hd⟩, harr⟩ := hx e h _ hm φ w a hg r R b (.inLoop x :: k) cs
      cases z with
      | n =>
        cases ex <;> simp [xr] at hz
        obtain ⟨ex2, a2, w2, ⟨z2, e2, h2, φ2, hz2, hK2, r2, R2, X2, hd2⟩, harr2⟩ := ih e' h' hK φ' w1 a1 (hg.mono X.le) r' R'
        exact ⟨ex2, a2, w2, ⟨z2, e2, h2, φ2, hz2, hK2, r2, R2, X.trans X2, hd2.trans hd⟩, .of_steps (Steps.trans harr (.one step_inLoop)) harr2⟩
      | x i =>
        cases ex <;> simp [xr] at hz
        subst hz
        exact ⟨.exit i, a1, w1, ⟨.x i, e', h', φ', rfl, hK, r', R', X, hd⟩, .pass (x := .inLoop x) rfl (fun _ _ => .inl (by simp)) harr⟩
      | r =>
        cases ex <;> simp [xr] at hz
        exact ⟨.ret, a1, w1, ⟨.r, e', h', φ', trivial, hK, r', R', X, hd⟩, .pass (x := .inLoop x) rfl (fun _ _ => .inl (by simp)) harr⟩
  obtain ⟨ex, a', w', hp, harr⟩ := key lf e h hm φ w a hg r.drop R
  exact ⟨ex, a', w', hp, .of_steps (.one step_loop) harr⟩
theorem regR_ok (hmix : P.follows .mixedOrders = true) {cf : CallF} (hcf : CallS P G cf) (hr : CallRet cf) (hfr : ∀ r, CallFrm r cf) {c : Code} (hchk : chkC P N c = true) {f : TL → L8 → H → KT → Bool} (hf : regR P G cf N c = some f) {ρ : TL} {e : L8} {h : H} {K : KT} (hm : f ρ e h K = true) {φ : Phi} {w : World} {a : Act} (hg : GlobOk P G φ) (r : RE φ N ρ e a) (R : Rel φ h w) (Q : Exit → Act → World → Prop)
    (hQ : ∀ ρ' e' h' φ' a' w', K ρ' e' h' = true → RE φ' N ρ' e' a' → Rel φ' h' w' → Ext φ h w φ' h' w' → a'.defers = a.defers → Q .normal a' w') : c.wp P Q a w := by
  cases c <;> try (simp [regR] at hf; done)
  rename_i i ops d
  cases d
  · simp only [regR, Option.some.injEq] at hf
    subst hf
    exact wp_region (runR_ok hcf Q _ hm hg r R hQ)
  · simp only [regR] at hf
    split at hf
    · rename_i n l ho
      split at hf
      · rename_i hok
        simp only [Option.some.injEq] at hf
        subst hf
        have hchk : chkR P ops l = true := by
          unfold chkC at hchk
          rw [ho] at hchk; exact hchk
        exact draw_ok hmix hcf hr hfr hchk hok hm hg r R Q hQ
      · simp at hf
    · simp at hf
theorem exec_ok (hmix : P.follows .mixedOrders = true) {cf : CallF} (hcf : CallS P G cf) (hr : CallRet cf) (hfr : ∀ r, CallFrm r cf) (lf : Nat) : ∀ (c : Code) (ρ : TL), chkC P N c = true → CodeS P G N ρ c (exec P G cf lf N c ρ)
  | .skip, ρ, hc => fun e h K hm φ w a hg r R => wp_skip ⟨.n, e, h, φ, trivial, hm, r.drop, R, .refl _ _ _, rfl⟩
  | .region i ops d, ρ, hc => by
    rw [exec_region]
    split
    · rename_i f hf
      exact fun e h K hm φ w a hg r R => regR_ok hmix hcf hr hfr hc hf hm hg r R _ fun ρ' e' h' φ' a' w' hk r' R' X hd => ⟨.n, e', h', φ', trivial, hk, r'.drop, R', X, hd⟩
    · exact noM_ok
  | .seq a b, ρ, hc => by
    have hc := Bool.and_eq_true_iff.1 (show (chkC P N a && chkC P N b) = true from hc)
    rw [exec_seq]
    split
    · rename_i f hf
      intro e h K hm φ w ac hg r R
      refine wp_seq (regR_ok hmix hcf hr hfr hc.1 hf hm hg r R _ ?_)
      intro ρ' e' h' φ' a' w' hk r' R' X hd
      refine wp_mono (exec_ok hmix hcf hr hfr lf b ρ' hc.2 e' h' K hk φ' w' a' (hg.mono X.le) r' R') ?_
      rintro ex2 a2 w2 ⟨z2, e2, h2, φ2, hz2, hK2, r2, R2, X2, hd2⟩
      exact ⟨z2, e2, h2, φ2, hz2, hK2, r2, R2, X.trans X2, hd2.trans hd⟩
    · exact seqM_ok (exec_ok hmix hcf hr hfr lf a ρ hc.1) (exec_ok hmix hcf hr hfr lf b .n hc.2)
  | .cond c a b, ρ, hc => by
    have hc := Bool.and_eq_true_iff.1 (show (chkC P N a && chkC P N b) = true from hc)
    rw [exec_cond]
    intro e h K hm φ w ac hg r R
    dsimp only at hm
    split at hm
    · rename_i hc1; exact condV_ok hm hc1 hg r R (exec_ok hmix hcf hr hfr lf a ρ hc.1) (exec_ok hmix hcf hr hfr lf b ρ hc.2)
    · simp at hm
  | .block i a, ρ, hc => blockM_ok (exec_ok hmix hcf hr hfr lf a ρ hc)
  | .loop a, ρ, hc => loopM_ok (exec_ok hmix hcf hr hfr lf a .n hc)
  | .exit i, ρ, hc => fun e h K hm φ w a hg r R => wp_exit ⟨.x i, e, h, φ, rfl, hm, r.drop, R, .refl _ _ _, rfl⟩
  | .ret, ρ, hc => fun e h K hm φ w a hg r R => wp_ret ⟨.r, e, h, φ, trivial, hm, r.drop, R, .refl _ _ _, rfl⟩
  | .rangeFunc .., ρ, hc => noM_ok
  | .scope _, ρ, hc => noM_ok
  | .label _, ρ, hc => noM_ok
  | .goto _, ρ, hc => noM_ok
  | .refuse _, ρ, hc => noM_ok
end Go.Bvm
set_option linter.unusedVariables false
namespace Go.Bvm
variable {P : Program} {G : Nat → Bool} {LF : Nat → List Nat} {OF : Nat → Nat → Option (Nat × List Od)} {cf : CallF} {lf : Nat}
theorem getT_c (N : Fr) (t u : Nat) (v : V) (r : TL) (e : L8) : getT N t (.c u v r) e = if u = t then v else getT N t r e := rfl
theorem argsK_ok {φ : Phi} {N : Fr} (hN : N.l.length ≤ 64) : ∀ (n i : Nat) (ρ : TL) (e : L8) (l : V) (cs : List Value) (k : TL → L8 → Bool), argsK N n i ρ e l k = true → RL φ l cs →
    cs.length = n ∧ ∃ ρ' e', k ρ' e' = true ∧ (∀ t, t < i ∨ i + n ≤ t → getT N t ρ' e' = getT N t ρ e ∧ getT N t .n e' = getT N t .n e) ∧ ∀ (j : Nat) c, cs[j]? = some c → RV φ (getT N (i + j) ρ' e') c ∧ RV φ (getT N (i + j) .n e') c
  | 0, i, ρ, e, l, cs, k, h, r => by
    obtain ⟨a, b, rfl, hk⟩ := onNil_true h
    cases r
    exact ⟨rfl, ρ, e, hk, fun t _ => ⟨rfl, rfl⟩, fun j c hj => by simp at hj⟩
  | n + 1, i, ρ, e, l, cs, k, h, r => by
    obtain ⟨a, b, rfl, hk⟩ := onCons_true h
    cases r with
    | cons ha hb =>
      rename_i v rest
      have key : ∀ e1 : L8, (∀ t, t ≠ i → ∀ ρ, getT N t ρ e1 = getT N t ρ e) → RV φ (getT N i .n e1) v → argsK N n (i + 1) (.c i a ρ) e1 b k = true →
          (v :: rest).length = n + 1 ∧ ∃ ρ' e', k ρ' e' = true ∧ (∀ t, t < i ∨ i + (n + 1) ≤ t → getT N t ρ' e' = getT N t ρ e ∧ getT N t .n e' = getT N t .n e) ∧ ∀ (j : Nat) c, (v :: rest)[j]? = some c → RV φ (getT N (i + j) ρ' e') c ∧ RV φ (getT N (i + j) .n e') c := by
        intro e1 hne hv hk1
        obtain ⟨h1, ρ', e', h2, h3, h4⟩ := argsK_ok hN n (i + 1) _ e1 b rest k hk1 hb
        refine ⟨by simp [h1], ρ', e', h2, fun t ht => ?_, fun j c hj => ?_⟩
        · obtain ⟨g1, g2⟩ := h3 t (by omega)
          rw [g1, g2, getT_c, if_neg (by omega)]
          exact ⟨hne t (by omega) _, hne t (by omega) _⟩
        · cases j with
          | zero =>
            simp at hj; subst hj
            obtain ⟨g1, g2⟩ := h3 i (by omega)
            rw [Nat.add_zero, g1, g2, getT_c, if_pos rfl]
            exact ⟨ha, hv⟩
          | succ j =>
            have := h4 j c (by simpa using hj)
            rw [show i + (j + 1) = i + 1 + j from by omega]; exact this
      split at hk
      · rename_i j hj
        have hj64 := idx_lt _ _ _ hj
        refine key _ (fun t ht ρ => getT_upd N i a j hN hj t e ρ ht) ?_ hk
        unfold getT
        rw [hj]; simp only
        rw [getL_updL _ _ _ _ (by omega) (by omega), if_pos rfl]; exact ha
      · rename_i hj
        refine key _ (fun t ht ρ => rfl) ?_ hk
        unfold getT
        rw [hj]; exact .any
def resSem (tmps : Array Value) : ResultVar → Sem Value
  | .tmp t => pure (tmps.getD t undef)
  | .cell c t => do loadVar t (← asAddr (tmps.getD c undef))
theorem results_eq (fn : Func) (tmps : Array Value) : results fn tmps = (do let vs ← fn.results.mapM (resSem tmps); pure (if h : vs.size = 1 then vs[0] else .tuple vs)) := by
  unfold results
  have : (fun | .tmp t => pure (tmps.getD t undef) | .cell a t => do loadVar t (← asAddr (tmps.getD a undef)) : ResultVar → Sem Value) = resSem tmps := by funext x; cases x <;> rfl
  rw [← this]; rfl
theorem ldV_ok {φ : Phi} {t : TypeId} {a : V} {h : H} {k : V → Bool} (hm : ldV P t a h k = true) (ht : hasT P t = true) {c : Value} {w : World} (rc : RV φ a c) (R : Rel φ h w) : ∃ L cv v, c = .pointer (some L) ∧ (loadVar t L).run P w = .ok cv w ∧ RV φ v cv ∧ k v = true := by
  obtain ⟨d, hd⟩ := hasT_under ht
  obtain ⟨i, hi⟩ := under_info hd
  unfold ldV at hm
  cases hone : oneT P t with
  | true =>
    rw [hone, if_pos rfl] at hm
    obtain ⟨id, off, lim, ver, e1, h2⟩ := onP_true hm
    obtain ⟨cc, size, bver, frz, elem, ex, own, e2, h3⟩ := onBk_true h2
    obtain ⟨h4, h5⟩ := both_true h3
    obtain rfl := beq_true h4
    rw [e1] at rc
    obtain ⟨l, e3, hl, e4⟩ := rc.inv_p
    obtain ⟨h6, h7⟩ := both_true h5
    have h6 := ble_true h6
    obtain ⟨v, hv, rv, _⟩ := R.cell e3 e2 (i := off) (by omega)
    refine ⟨_, v, _, e4, ?_, rv, h7⟩
    unfold loadVar
    rw [Sem.run_bind, run_isAgg hd, hone]
    show (load _).run P w = _
    rw [run_load, hv]
  | false =>
    rw [hone, if_neg (by simp)] at hm
    obtain ⟨id, off, lim, ver, e1, h2⟩ := onP_true hm
    obtain ⟨cc, size, bver, frz, elem, ex, own, e2, h3⟩ := onBk_true h2
    obtain ⟨h4, h5⟩ := both_true h3
    obtain rfl := beq_true h4
    rw [e1] at rc
    obtain ⟨l, e3, hl, e4⟩ := rc.inv_p
    obtain ⟨h6, h7⟩ := both_true h5
    have h6 := ble_true h6
    simp only [Nat.add_eq] at h6
    obtain ⟨q, q1, q2, q3, q4⟩ := cells_rel (φ := φ) (w := w) (c := cc) (B := l.B) (o := l.base) (sizeT P t) off (fun j hj => by
      rw [Nat.add_assoc]; exact R.cell e3 e2 (i := off + j) (by omega))
    refine ⟨_, .agg ⟨q⟩, _, e4, ?_, .agg q2 q3, h7⟩
    unfold loadVar
    rw [Sem.run_bind, run_isAgg hd, hone]
    show (do pure (.agg (← loadCells ⟨l.B, l.base + off, none⟩ (← sizeOf t))) : Sem Value).run P w = _
    rw [Sem.run_bind, run_size hi]
    simp only [Result.andThen_ok]
    rw [Sem.run_bind, ← q1, run_loadCells_list w ⟨l.B, l.base + off, none⟩ q (fun j v hj => by rw [add_addr]; exact q4 j v hj)]
    rfl
theorem resL_ok {φ : Phi} {N : Fr} {e : L8} {a : Act} (r : RE φ N .n e a) {h : H} {w : World} (R : Rel φ h w) : ∀ (l : List ResultVar) (q : QF) (k : V → Bool), resL P N l = some q → q e h k = true → ∃ (vs : List Value) (v : V), (l.mapM (resSem a.tmps)).run P w = .ok vs w ∧ RL φ v vs ∧ vs.length = l.length ∧ k v = true
  | [], q, k, hq, hm => by simp only [resL, Option.some.injEq] at hq; subst hq; exact ⟨[], _, rfl, .nil, rfl, hm⟩
  | .cell c t :: rest, q, k, hq, hm => by
    simp only [resL] at hq
    split at hq
    · rename_i ht
      split at hq
      · rename_i q' hq'
        simp only [Option.some.injEq] at hq; subst hq
        obtain ⟨v, e1, e2, _⟩ := r.at_ c ht.1
        have hv : a.tmps.getD c undef = v := by rw [Array.getD_eq_getD_getElem?, e1]; rfl
        obtain ⟨L, cv, u, g1, g2, g3, g4⟩ := ldV_ok hm ht.2 e2 R
        obtain ⟨vs, z, h1, h2, h3, h4⟩ := resL_ok r R rest q' _ hq' g4
        refine ⟨cv :: vs, _, ?_, .cons g3 h2, by simp [h3], h4⟩
        rw [List.mapM_cons, Sem.run_bind]
        have : (resSem a.tmps (.cell c t)).run P w = .ok cv w := by
          simp only [resSem, hv, g1]
          rw [Sem.run_bind]
          show (loadVar t L).run P w = _
          exact g2
        rw [this]
        simp only [Result.andThen_ok]
        rw [Sem.run_bind, h1]; rfl
      · simp at hq
    · simp at hq
  | .tmp t :: rest, q, k, hq, hm => by
    simp only [resL] at hq
    split at hq
    · rename_i ht
      split at hq
      · rename_i q' hq'
        simp only [Option.some.injEq] at hq; subst hq
        obtain ⟨vs, z, h1, h2, h3, h4⟩ := resL_ok r R rest q' _ hq' hm
        obtain ⟨v, e1, e2, _⟩ := r.at_ t ht
        have hv : a.tmps.getD t undef = v := by rw [Array.getD_eq_getD_getElem?, e1]; rfl
        refine ⟨v :: vs, _, ?_, .cons e2 h2, by simp [h3], h4⟩
        rw [List.mapM_cons, Sem.run_bind]
        simp only [resSem, Sem.run_pure, Result.andThen_ok, hv]
        rw [Sem.run_bind, h1]; rfl
      · simp at hq
    · simp at hq
theorem results_ok {φ : Phi} {N : Fr} {e : L8} {a : Act} (r : RE φ N .n e a) {h : H} {w : World} (R : Rel φ h w) {fn : Func} {q : QF} {k : V → Bool} (hq : resE P N fn.results.toList = some q) (hk : q e h k = true) : ∃ c v, (results fn a.tmps).run P w = .ok c w ∧ RV φ v c ∧ k v = true := by
  have hm : ∀ vs : List Value, (fn.results.toList.mapM (resSem a.tmps)).run P w = .ok vs w →
      (results fn a.tmps).run P w = .ok (if h : (⟨vs⟩ : Array Value).size = 1 then (⟨vs⟩ : Array Value)[0] else .tuple ⟨vs⟩) w := fun vs hvs => by
    rw [results_eq, Sem.run_bind, Array.mapM_eq_mapM_toList, Sem.run_map, hvs]
    rfl
  unfold resE at hq
  split at hq
  · rename_i t hl
    split at hq
    · rename_i ht
      simp only [Option.some.injEq] at hq; subst hq
      obtain ⟨v, e1, e2, _⟩ := r.at_ t ht
      have hv : a.tmps.getD t undef = v := by rw [Array.getD_eq_getD_getElem?, e1]; rfl
      refine ⟨v, _, ?_, e2, hk⟩
      rw [hm [v] (by rw [hl, List.mapM_cons, Sem.run_bind]; simp [hv, resSem])]
      rfl
    · simp at hq
  · rename_i c t hl
    split at hq
    · rename_i ht
      simp only [Option.some.injEq] at hq; subst hq
      obtain ⟨v, e1, e2, _⟩ := r.at_ c ht.1
      have hv : a.tmps.getD c undef = v := by rw [Array.getD_eq_getD_getElem?, e1]; rfl
      obtain ⟨L, cv, u, g1, g2, g3, g4⟩ := ldV_ok hk ht.2 e2 R
      have : (resSem a.tmps (.cell c t)).run P w = .ok cv w := by
        simp only [resSem, hv, g1]
        rw [Sem.run_bind]
        show (loadVar t L).run P w = _
        exact g2
      refine ⟨cv, u, ?_, g3, g4⟩
      rw [hm [cv] (by rw [hl, List.mapM_cons, Sem.run_bind, this]; rfl)]
      rfl
    · simp at hq
  · rename_i hne hne2
    split at hq
    · rename_i q' hq'
      simp only [Option.some.injEq] at hq; subst hq
      obtain ⟨vs, z, h1, h2, h3, h4⟩ := resL_ok (P := P) r R _ q' _ hq' hk
      refine ⟨.tuple ⟨vs⟩, _, ?_, .tup h2, h4⟩
      rw [hm vs h1]
      have : ¬ (⟨vs⟩ : Array Value).size = 1 := by
        intro hs
        have hs : vs.length = 1 := hs
        rw [h3] at hs
        cases hl : fn.results.toList with
        | nil => rw [hl] at hs; simp at hs
        | cons x rest =>
          rw [hl] at hs
          have : rest = [] := by simpa using hs
          subst this
          cases x with
          | tmp t => exact hne t hl
          | cell c t => exact hne2 c t hl
      rw [dif_neg this]
    · simp at hq
noncomputable def chkF (P : Program) (LF : Nat → List Nat) (OF : Nat → Nat → Option (Nat × List Od)) (f : Nat) : Bool := match P.funcs[f]? with
  | some fn => match fn.body with
    | some c => chkC P ⟨fn.ntmps, LF f, OF f⟩ c
    | none => true
  | none => true
theorem fnF_ok (hmix : P.follows .mixedOrders = true) (hcf : CallS P G cf) (hr : CallRet cf) (hfr : ∀ r, CallFrm r cf) {f : Nat} (hchk : chkF P LF OF f = true) {l : V} {h : H} {k : KV} (hm : fnF P G LF OF cf lf f l h k = true) {φ : Phi} {w : World} {args : List Value} (hg : GlobOk P G φ) (hl : RL φ l args) (R : Rel φ h w) :
    (∀ w, (callFunc f ⟨args⟩).run P w = .ok (.enter f ⟨args⟩) w) ∧ Calls P f ⟨args⟩ w fun e w' => ∃ c, e = .returned c ∧ FPost k φ h w c w' := by
  unfold fnF at hm
  cases hf : P.funcs[f]? with
  | none => rw [hf] at hm; simp [noF] at hm
  | some fn =>
    rw [hf] at hm
    simp only at hm
    split at hm
    · simp [noF] at hm
    rename_i hname
    split at hm
    rotate_left
    · simp [noF] at hm
    rename_i hNn
    obtain ⟨hN, hnt⟩ := hNn
    cases hb : fn.body with
    | none => rw [hb] at hm; simp [noF] at hm
    | some c =>
      cases hq : resE P ⟨fn.ntmps, LF f, OF f⟩ fn.results.toList with
      | none => rw [hb, hq] at hm; simp [noF] at hm
      | some q =>
        rw [hb, hq] at hm
        simp only at hm
        obtain ⟨h1, ρ', e', h3, h4, h5⟩ := argsK_ok (N := ⟨fn.ntmps, LF f, OF f⟩) hN _ 0 .n e0 l args _ hm hl
        constructor
        · intro w
          unfold callFunc
          rw [Sem.run_bind, run_program]
          simp only [Result.andThen_ok, hf]
          rw [if_neg hname]
          rw [if_neg (by rw [hb]; simp)]
          rfl
        · refine calls_of_wp hf hb ?_
          have hsz : (({ tmps := (⟨args⟩ : Array Value) ++ Array.replicate (fn.ntmps - (⟨args⟩ : Array Value).size) undef, defers := [] } : Act)).tmps.size = fn.ntmps := by
            show ((⟨args⟩ : Array Value) ++ Array.replicate (fn.ntmps - args.length) undef).size = fn.ntmps
            rw [Array.size_append, Array.size_replicate]
            show args.length + _ = _
            omega
          have r : RE φ ⟨fn.ntmps, LF f, OF f⟩ ρ' e' { tmps := (⟨args⟩ : Array Value) ++ Array.replicate (fn.ntmps - (⟨args⟩ : Array Value).size) undef, defers := [] } := by
            refine ⟨hsz, hN, fun t ht => ?_⟩
            dsimp only at ht
            by_cases hta : t < args.length
            · refine ⟨args[t], ?_, ?_⟩
              · show ((⟨args⟩ : Array Value) ++ _)[t]? = _
                rw [Array.getElem?_append_left (by exact hta)]
                simp [hta]
              · have := h5 t _ (List.getElem?_eq_getElem hta)
                rw [Nat.zero_add] at this; exact this
            · refine ⟨undef, ?_, ?_⟩
              · show ((⟨args⟩ : Array Value) ++ Array.replicate (fn.ntmps - args.length) undef)[t]? = _
                rw [Array.getElem?_append_right (by show args.length ≤ t; omega)]
                show (Array.replicate (fn.ntmps - args.length) undef)[t - args.length]? = _
                rw [Array.getElem?_replicate, if_pos (by omega)]
              · obtain ⟨g1, g2⟩ := h4 t (by omega)
                rw [g1, g2]
                rcases getT_e0 ⟨fn.ntmps, LF f, OF f⟩ t with q | q
                · rw [q]; exact ⟨.undef, .undef⟩
                · rw [q]; exact ⟨.any, .any⟩
          refine wp_mono (exec_ok hmix hcf hr hfr lf c ρ' (by unfold chkF at hchk; rw [hf] at hchk; dsimp only at hchk; rw [hb] at hchk; exact hchk) e' h _ h3 φ w _ hg r R) ?_
          rintro ex a' w' ⟨z, e2, h', φ', hz, hK, r', R', X, hd⟩
          cases z with
          | n =>
            cases ex <;> simp [xr] at hz
            obtain ⟨c, v, hv, rv, hk⟩ := results_ok (P := P) r' R' hq hK
            exact ⟨hd, c, hv, _, rfl, _, h', φ', hk, rv, R', X⟩
          | r =>
            cases ex <;> simp [xr] at hz
            obtain ⟨c, v, hv, rv, hk⟩ := results_ok (P := P) r' R' hq hK
            exact ⟨hd, c, hv, _, rfl, _, h', φ', hk, rv, R', X⟩
          | x i => exact Bool.noConfusion (show false = true from hK)
structure EntOk (P : Program) (G : Nat → Bool) (f : Nat) (A : CallF → V → H → KV → Bool) : Prop where
  ok : ∀ cf, CallS P G cf → CallRet cf → (∀ r, CallFrm r cf) → ∀ l h k, A cf l h k = true → ∀ φ w args, GlobOk P G φ → RL φ l args → Rel φ h w → OpRun P (callFunc f ⟨args⟩) w (FPost k φ h w)
  ret : ∀ cf, CallRet cf → ∀ l h, RetV (A cf l h)
  frm : ∀ cf, (∀ r, CallFrm r cf) → ∀ r l, FrmG r (fun h (k : V → H → Bool) => A cf l h k)
structure TblOk (P : Program) (G : Nat → Bool) (t : CallF → CallF) : Prop where
  ok : ∀ cf, CallS P G cf → CallRet cf → (∀ r, CallFrm r cf) → CallS P G (t cf)
  ret : ∀ cf, CallRet cf → CallRet (t cf)
  frm : ∀ cf, (∀ r, CallFrm r cf) → ∀ r, CallFrm r (t cf)
theorem EntOk.no (f : Nat) : EntOk P G f (fun _ => noF) :=
  ⟨fun _ _ _ _ l h k hm => Bool.noConfusion (show false = true from hm), fun _ _ _ _ => .inl fun _ => rfl, fun _ _ _ _ => .no⟩
def FnEq (P : Program) (G : Nat → Bool) (LF : Nat → List Nat) (OF : Nat → Nat → Option (Nat × List Od)) (f : Nat) (T : CallF → Nat → V → H → KV → Bool) : Prop := ∀ cf lf, fnF P G LF OF cf lf f = T cf lf
theorem EntOk.fn (hmix : P.follows .mixedOrders = true) {f : Nat} {T : CallF → Nat → V → H → KV → Bool} (e : FnEq P G LF OF f T) (hchk : chkF P LF OF f = true) (lf : Nat) : EntOk P G f (fun cf => T cf lf) where
  ok := fun cf h1 h2 h3 l h k hm φ w args hg hl R => by
    rw [← e cf lf] at hm
    obtain ⟨g1, g2⟩ := fnF_ok hmix h1 h2 h3 hchk hm hg hl R
    exact .inr (.inr ⟨f, ⟨args⟩, g1 w, g2⟩)
  ret := fun cf h1 l h => by rw [← e cf lf]; exact ret_fnF h1 f l h
  frm := fun cf h1 r l => by rw [← e cf lf]; exact frm_fnF (h1 r) f l
theorem TblOk.leaf {n : Nat} {T : CallF → V → H → KV → Bool} (e : EntOk P G n T) : TblOk P G (fun cf f => (bs (Nat.beq f n) (T cf) noF : V → H → KV → Bool)) where
  ok := fun cf h1 h2 h3 f l h k hm => by
    replace hm : (bs (Nat.beq f n) (T cf) noF : V → H → KV → Bool) l h k = true := hm
    cases hb : Nat.beq f n with
    | false => rw [hb] at hm; simp [noF] at hm
    | true => rw [hb] at hm; obtain rfl := beq_true hb; exact e.ok cf h1 h2 h3 l h k hm
  ret := fun cf h1 f l h => by
    show RetV ((bs (Nat.beq f n) (T cf) noF : V → H → KV → Bool) l h)
    cases hb : Nat.beq f n with
    | false => exact .inl fun _ => rfl
    | true => exact e.ret cf h1 l h
  frm := fun cf h1 r f l => by
    show FrmG r (fun h (k : V → H → Bool) => (bs (Nat.beq f n) (T cf) noF : V → H → KV → Bool) l h k)
    cases hb : Nat.beq f n with
    | false => exact .no
    | true => exact e.frm cf h1 r l
theorem TblOk.node (n : Nat) {A B : CallF → CallF} (a : TblOk P G A) (b : TblOk P G B) : TblOk P G (fun cf f => (bs (Nat.ble n f) (A cf f) (B cf f) : V → H → KV → Bool)) where
  ok := fun cf h1 h2 h3 f l h k hm => by
    replace hm : (bs (Nat.ble n f) (A cf f) (B cf f) : V → H → KV → Bool) l h k = true := hm
    cases hb : Nat.ble n f with
    | false => rw [hb] at hm; exact b.ok cf h1 h2 h3 f l h k hm
    | true => rw [hb] at hm; exact a.ok cf h1 h2 h3 f l h k hm
  ret := fun cf h1 f l h => by
    show RetV ((bs (Nat.ble n f) (A cf f) (B cf f) : V → H → KV → Bool) l h)
    cases hb : Nat.ble n f with
    | false => exact b.ret cf h1 f l h
    | true => exact a.ret cf h1 f l h
  frm := fun cf h1 r f l => by
    show FrmG r (fun h (k : V → H → Bool) => (bs (Nat.ble n f) (A cf f) (B cf f) : V → H → KV → Bool) l h k)
    cases hb : Nat.ble n f with
    | false => exact b.frm cf h1 r f l
    | true => exact a.frm cf h1 r f l
noncomputable def run (t : CallF → CallF) (n : Nat) : CallF := Nat.rec (motive := fun _ => CallF) (fun _ _ _ _ => false) (fun _ ih => t ih) n
theorem run_ok {t : CallF → CallF} (h : TblOk P G t) : ∀ n, CallS P G (run t n) ∧ CallRet (run t n) ∧ ∀ r, CallFrm r (run t n)
  | 0 => ⟨fun f l h k hm => Bool.noConfusion (show false = true from hm), fun _ _ _ => .inl fun _ => rfl, fun _ _ _ => .no⟩
  | n + 1 => let ⟨a, b, c⟩ := run_ok h n; ⟨h.ok _ a b c, h.ret _ b, h.frm _ c⟩
end Go.Bvm
set_option linter.unusedVariables false
namespace Go.Bvm
open Go.ChangeShapes Go.WideShapes Go.ChangeAt Go.RowKit
theorem Ext.below {φ φ' : Phi} {n : Nat} {h' : H} {w w' : World} (X : Ext φ ⟨n, t6⟩ w φ' h' w') : Below w.heap.size w w' := by
  have no : ∀ B, ¬ Own φ t6 B := fun B ⟨id, l, _, ho, _⟩ => by rw [hget_t6] at ho; simp [owns] at ho
  exact ⟨X.os, X.tape, X.output, X.size, fun k hk => X.frame k hk (no k)⟩
theorem Rel.start (w : World) : Rel (fun _ _ => none) ⟨0, t6⟩ w where
  next := by show 0 ≤ (0 : Nat); omega
  dom := fun id v l h => by simp at h
  blk := fun id _ => by show BlkOk _ _ _ (hget id t6); rw [hget_t6]; trivial
  apart := fun i j _ _ _ ho => by dsimp only at ho; rw [hget_t6] at ho; simp [owns] at ho
noncomputable def osl : V := .x .osl V.nil V.nil
noncomputable def osls : Nat → V := fun n => Nat.rec V.nil (fun _ r => .x .cons osl r) n
noncomputable def oslArg (n : Nat) : V := .x .agg (osls n) V.nil
theorem osls_ok {φ : Phi} : ∀ l : List Value, (∀ x, x ∈ l → ∃ A len cap, x = .slice A len cap) → RL φ (osls l.length) l
  | [], _ => .nil
  | x :: r, h => by
    obtain ⟨A, len, cap, rfl⟩ := h x (by simp)
    exact .cons .osl (osls_ok r fun y hy => h y (by simp [hy]))
def slicesOnly (P : Program) (t : TypeId) (n : Nat) : Bool := match P.underlying t, P.cellTypes P.depth t with
  | some (.struct _), some ts => Nat.beq ts.length n && Nat.beq (P.cellsOf t) n && ts.all (fun u => match P.underlying u with | some (.slice _) => true | _ => false)
  | _, _ => false
theorem okWide_osl {φ : Phi} {P : Program} {W : World} {base : Nat} {t : TypeId} {n : Nat} {v : Value} (hb : slicesOnly P t n = true) (h : Value.okWide P W .any base t v) : RV φ (oslArg n) v := by
  unfold slicesOnly at hb
  split at hb
  rotate_left
  · simp at hb
  rename_i fs ts ht hts
  simp only [Bool.and_eq_true] at hb
  obtain ⟨⟨h1, h2⟩, hall⟩ := hb
  have h1 := beq_true h1; have h2 := beq_true h2
  unfold Value.okWide at h
  rw [ht] at h
  obtain ⟨⟨l⟩, rfl, hs, ts', e, _, hc⟩ := h
  rw [hts] at e; cases e
  have hs : l.length = ts.length := by rw [h1, ← h2]; exact hs
  have hsl : ∀ x, x ∈ l → ∃ A len cap, x = .slice A len cap := fun x hx => by
    obtain ⟨i, hi, rfl⟩ := List.getElem_of_mem hx
    obtain ⟨u, hu, hk⟩ := hc i l[i] (by simp [hi])
    have hm : u ∈ ts := List.mem_of_getElem? hu
    have := List.all_eq_true.1 hall u hm
    unfold Cell.okWide at hk
    cases hU : P.underlying u with
    | none => rw [hU] at this; simp at this
    | some d =>
      rw [hU] at this hk
      cases d <;> simp at this
      generalize l[i] = x at hk
      cases x <;> simp [Cell.ok, hU] at hk ⊢
  have e : n = l.length := by rw [hs]; exact h1.symm
  rw [e]
  refine .agg (osls_ok l hsl) fun x hx => ?_
  obtain ⟨A, len, cap, rfl⟩ := hsl x hx
  rfl
theorem law_lifted {H : Type} {enc : TypeId × Value → H} {C : Checked} {os : Os} {f : FuncId} {fn : Func} {s : ChangeSpec} {t tb : TypeId} {conds : List PathCond}
    (own : ownKnob C.prog.godebug = none) (started : os.Started) (noInit : C.prog.inits.idxOf? f = none) (hfn : C.prog.funcs[f]? = some fn)
    (witness : ∃ (w : World) (tape : Tape) (i : Input), w.os = os ∧ (w.forCall tape i).Shaped C.prog ∧ i.vars = [] ∧ Input.okWide C.prog (w.forCall tape i) .any w.heap.size f i ∧
      s.pre6 enc C.prog fn conds false (w.forCall tape i).memory i.args ∧ ({ modest := false } : Assume).holds C.prog (lone (Frame.enter C.prog f i.args .normal) [] (w.forCall tape i)))
    (hp : fn.params = #[t]) (hr : fn.resultTypes = #[tb]) (htb : C.prog.underlying tb = some .bool) (hv : s.vars = []) (hs : ∀ d, s.fn H [d] = { results := [.lit (.bool true)], args := [d] })
    (hl : laidOutB C.prog = true) (hrd : C.prog.readableRec t = true) (hrow : t < C.prog.types.size)
    (hcall : ∀ (W : World) (base : Nat) (v : Value), Value.okWide C.prog W .any base t v → Calls C.prog f #[v] W fun e W' => e = .returned (.bool true) ∧ Below W.heap.size W W') :
    ReturnsInHanded { modest := false } C os f .any (s.pre6 enc C.prog fn conds false) (s.post enc C.prog fn false true false false) := by
  refine returnsInHanded_of_change own started noInit hfn witness ?_
  intro W base args ds gs before hval hW _ _
  have hW' := hW
  obtain ⟨p, q, hA, hV, rfl, hfz, hnd⟩ := hW
  rw [hp] at hA
  rw [hv] at hV
  obtain ⟨v, d, rfl, rfl, h0⟩ := trodAll_one hA
  obtain ⟨rfl, rfl⟩ := trodVars_none hV
  refine (hcall W base v (hval 0 t v (by rw [hp]; rfl) rfl)).mono fun e W' ⟨he, hb⟩ => ?_
  refine ⟨_, he, [d], [], p ++ [], [], p, [], hW', ?_, ?_, ?_, ?_, fun k => by simp at k⟩
  · rw [hr]
    show DataW.TrodAll enc C.prog W' W.heap.size (fun _ => false) false [tb] [.bool true] (s.fn H ([d] ++ [])).results []
    rw [List.append_nil, hs]
    exact trodAll_mk1 (shut_bool htb true)
  · rw [hp, List.append_nil, hs]
    exact trodAll_mk1 (Below.trod hl hrd hrow h0 hb fun x hx => by have := hW'.lt x (by simp [hx]); simpa using this)
  · rw [hv, List.append_nil, hs]
    exact rfl
  · exact hb.frame _
theorem law_call {P : Program} (hmix : P.follows .mixedOrders = true) {LF : Nat → List Nat} {OF : Nat → Nat → Option (Nat × List Od)} {lf f : Nat} {G : Nat → Bool} (hG : ∀ g, G g = false) {t : CallF → CallF} (ht : TblOk P G t) {T : CallF → Nat → V → H → KV → Bool} (e : FnEq P G LF OF f T) (hchk : chkF P LF OF f = true) {a : V} (n : Nat)
    (hm : T (run t n) lf (.x .cons a V.nil) ⟨0, t6⟩ (fun v _ => onT v fun b => b) = true) {W : World} {v : Value} (hv : RV (fun _ _ => none) a v) :
    Calls P f #[v] W fun e W' => e = .returned (.bool true) ∧ Below W.heap.size W W' := by
  rw [← e (run t n) lf] at hm
  obtain ⟨h1, h2, h3⟩ := run_ok ht n
  obtain ⟨_, h⟩ := fnF_ok (φ := fun _ _ => none) hmix h1 h2 h3 hchk hm (fun g q hg _ => by rw [hG] at hg; simp at hg) (.cons hv .nil) (Rel.start W)
  refine h.mono ?_
  rintro e w' ⟨c, rfl, v, h', φ', hk, rv, R', X⟩
  obtain ⟨b, rfl, hb⟩ := onT_true hk
  have hb : b = true := hb
  subst hb
  obtain rfl := rv.inv_t
  exact ⟨rfl, X.below⟩
end Go.Bvm
set_option linter.unusedVariables false
namespace Go.Bvm
variable {P : Program} {G : Nat → Bool}
noncomputable section
def fnd (c : Nat) : (l n i : Nat) → Nat := Nat.rec (motive := fun _ => Nat → Nat → Nat) (fun _ _ => Nat.sub bias 1) (fun _ ih n i => bs (Nat.beq (Nat.mod n 256) c) (Nat.add i bias) (ih (Nat.div n 256) (Nat.succ i)))
def extSame (l : V) (h : H) (k : KV) : Bool := onCons l fun a r => onNil r (k a h)
def extIdx (l : V) (h : H) (k : KV) : Bool := onCons l fun a r => onCons r fun b r => onNil r (onS a fun m n => onY b fun c => both (Nat.ble m 1000000000) (k (.w (fnd c m n 0)) h))
def extMnz (e : Nat) (l : V) (h : H) (k : KV) : Bool := onCons l fun a r => onNil r (onW a fun n => both (Nat.ble bias n) (both (Nat.ble (Nat.sub n bias) 16777216) (resv 1 h fun id h' =>
  k (.sl id 0 (Nat.sub n bias) 0 1) ⟨h'.next, hset id (.bk (afill (Nat.sub n bias) V.any) (Nat.sub n bias) 0 0 e false true) h'.tr⟩)))
end
theorem EntOk.same {f : Nat} {fn : Func} (hf : P.funcs[f]? = some fn) (hname : (fn.name == "runtime.NumGoroutine") = false) (hb : fn.body.isNone = true) (hn : Extern.findNext fn = none) (he : Extern.find fn = some Extern.AbiNoEscape.same) : EntOk P G f (fun _ => extSame) where
  ok := fun cf _ _ _ l h k hm φ w args hg hl R => by
    obtain ⟨a, r, rfl, hm⟩ := onCons_true hm
    cases hl with
    | cons ha hr =>
      obtain ⟨_, _, rfl, hm⟩ := onNil_true hm
      cases hr
      exact .inl ⟨_, w, by rw [run_callFunc_extern hf hname hb hn he]; rfl, _, h, φ, hm, ha, R, .refl _ _ _⟩
  ret := fun cf _ l h => .onCons fun a r => .onNil (.k _)
  frm := fun cf _ r l h hk => by
    show FrmAt r (fun h (k : V → H → Bool) => onCons l fun a r => onNil r (k a h)) h
    cases l with
    | x g a b =>
      cases g <;> first | exact .no | skip
      show FrmAt r (fun h (k : V → H → Bool) => onNil b (k a h)) h
      cases b with
      | x g a' b' => cases g <;> first | exact .no | exact .k hk _
      | _ => exact .no
    | _ => exact .no
theorem fnd_eq (c : UInt8) : ∀ (bs : List UInt8) (i : Nat), fnd c.toNat bs.length (pack bs) i = match (List.range bs.length).find? (fun j => bs[j]! == c) with | some j => i + j + bias | none => bias - 1
  | [], i => rfl
  | b :: r, i => by
    have h1 : (b.toNat + 256 * pack r) % 256 = b.toNat := by have := b.toNat_lt; omega
    have h2 : (b.toNat + 256 * pack r) / 256 = pack r := by have := b.toNat_lt; omega
    show bs (Nat.beq ((b.toNat + 256 * pack r) % 256) c.toNat) (i + bias) (fnd c.toNat r.length ((b.toNat + 256 * pack r) / 256) (i + 1)) = _
    rw [h1, h2, fnd_eq c r (i + 1), List.length_cons, List.range_succ_eq_map, List.find?_cons]
    by_cases hbc : b = c
    · subst hbc
      simp
    · have : Nat.beq b.toNat c.toNat = false := by
        cases hq : Nat.beq b.toNat c.toNat with
        | false => rfl
        | true => exact absurd (UInt8.toNat_inj.1 (beq_true hq)) hbc
      rw [this, bs_false]
      have h3 : ((b :: r)[0]! == c) = false := by simp [hbc]
      rw [h3, List.find?_map]
      have h4 : ((fun j => (b :: r)[j]! == c) ∘ Nat.succ) = fun j => r[j]! == c := by funext j; simp
      rw [h4]
      cases (List.range r.length).find? (fun j => r[j]! == c) with
      | none => rfl
      | some j => simp; omega
theorem firstIdx_eq (s : ByteArray) (c : UInt8) : firstIdx s c = match (List.range s.data.toList.length).find? (fun j => s.data.toList[j]! == c) with | some j => (j : Int) | none => -1 := by
  unfold firstIdx
  have e1 : s.size = s.data.toList.length := by simp
  rw [e1]
  have e2 : (fun i : Nat => s[i]! == c) = fun j => s.data.toList[j]! == c := by
    funext j
    have e1 : s.size = s.data.size := rfl
    by_cases hj : j < s.size
    · rw [getElem!_pos s j hj, getElem!_pos s.data.toList j (by simpa using hj)]
      rfl
    · rw [getElem!_neg s j hj, getElem!_neg s.data.toList j (by simpa using hj)]
  rw [e2]
  split <;> rename_i h <;> rw [h]
theorem find_lt {n j : Nat} {p : Nat → Bool} (h : (List.range n).find? p = some j) : j < n := by
  simpa using List.mem_of_find?_eq_some h
theorem EntOk.idx {f : Nat} {fn : Func} (hf : P.funcs[f]? = some fn) (hname : (fn.name == "runtime.NumGoroutine") = false) (hb : fn.body.isNone = true) (hn : Extern.findNext fn = none) (he : Extern.find fn = some Extern.BytealgIndexByte.indexByte) : EntOk P G f (fun _ => extIdx) where
  ok := fun cf _ _ _ l h k hm φ w args hg hl R => by
    obtain ⟨a, r, h1, hm1⟩ := onCons_true hm
    rw [h1] at hl
    cases hl with
    | cons ha hr =>
      obtain ⟨b, r', h2, hm2⟩ := onCons_true hm1
      rw [h2] at hr
      cases hr with
      | cons hb' hr =>
        obtain ⟨_, _, h3, hm3⟩ := onNil_true hm2
        rw [h3] at hr
        cases hr
        obtain ⟨m, n, e1, hm4⟩ := onS_true hm3
        obtain ⟨c, e2, hm5⟩ := onY_true hm4
        obtain ⟨hle, hm6⟩ := both_true hm5
        have hle := ble_true hle
        rw [e1] at ha; rw [e2] at hb'
        obtain ⟨s, e3, e4, e5⟩ := ha.inv_s
        obtain ⟨hc, e6⟩ := hb'.inv_y
        subst e3 e6
        refine .inl ⟨_, w, by rw [run_callFunc_extern hf hname hb hn he, run_indexByte_string]; rfl, _, h, φ, hm6, ?_, R, .refl _ _ _⟩
        have hcn : ((c : Int).toNat.toUInt8).toNat = c := by simp; omega
        have hlen : s.data.toList.length = m := by rw [← e4]; simp
        have := fnd_eq ((c : Int).toNat.toUInt8) s.data.toList 0
        rw [hcn, hlen, e5] at this
        rw [this, firstIdx_eq, hlen]
        cases hq : (List.range m).find? (fun j => s.data.toList[j]! == (c : Int).toNat.toUInt8) with
        | none =>
          exact RV.w (φ := φ) (n := 9223372036854775807) (by omega)
        | some j =>
          have := find_lt hq
          dsimp only
          rw [Nat.zero_add]
          exact RV.nat (by omega)
  ret := fun cf _ l h => .onCons fun a r => .onCons fun b r => .onNil (.onS fun m n => .onY fun c => .both (.k _))
  frm := fun cf _ r l h hk => by
    show FrmAt r (fun h (k : V → H → Bool) => onCons l fun a r => onCons r fun b r => onNil r (onS a fun m n => onY b fun c => both (Nat.ble m 1000000000) (k (.w (fnd c m n 0)) h))) h
    cases l with
    | x g a b =>
      cases g <;> first | exact .no | skip
      cases b with
      | x g b c =>
        cases g <;> first | exact .no | skip
        cases c with
        | x g c d =>
          cases g <;> first | exact .no | skip
          cases a <;> first | exact .no | skip
          cases b <;> first | exact .no | skip
          rename_i l n c
          exact FrmAt.both (c := fun _ => Nat.ble l 1000000000) (F := fun h (k : V → H → Bool) => k (V.w (fnd c l n 0)) h) (fun _ => rfl) fun _ => FrmAt.k hk _
        | _ => exact .no
      | _ => exact .no
    | _ => exact .no
theorem digits_one : ∀ (n t : Nat) (acc : Array Value), (∀ v, v ∈ acc → v.oneCell' = true) → ∀ v, v ∈ Extern.BytealgMakeNoZero.digits n t acc → v.oneCell' = true
  | 0, _, acc, h => h
  | n + 1, t, acc, h => by
    rw [Extern.BytealgMakeNoZero.digits]
    refine digits_one n _ _ fun v hv => ?_
    rcases Array.mem_push.1 hv with hv | rfl
    · exact h v hv
    · rfl
theorem run_mnz (w : World) (ps : Array TypeId) (t e : TypeId) (ht : P.underlying t = some (.slice e)) (n : Nat) (hn : n ≤ 281474976710656) :
    ∃ cs : Array Value, (Extern.BytealgMakeNoZero.makeNoZero ps #[t] #[.int .i64 n]).run P w = .ok (.slice (some ⟨w.heap.size, 0, none⟩) n cs.size) (w.drew.drew.alloc (.cells cs e)) ∧ n ≤ cs.size ∧ ∀ v, v ∈ cs → v.oneCell' = true := by
  have hdef : Extern.BytealgMakeNoZero.makeNoZero ps #[t] #[.int .i64 n] =
      (do
        let .slice elem ← underlying t | stuck "bytealg.MakeNoZero: slice type expected"
        if (n : Int) < 0 || (n : Int) > 2 ^ 48 then runtimePanic (.error "makeslice: len out of range")
        let cap ← choose (.appendCap (n : Int).toNat 0 elem)
        askRoom cap
        let bytes ← choose (.extern "internal/bytealg.MakeNoZero.bytes" 0)
        let a ← newRow elem (Extern.BytealgMakeNoZero.digits cap bytes #[])
        pure (.slice (some a) (n : Int).toNat cap)) := rfl
  refine ⟨Extern.BytealgMakeNoZero.digits (grownCap w n 0 e) ((Question.extern "internal/bytealg.MakeNoZero.bytes" 0).cut (w.tape (w.drawn + 1) (.extern "internal/bytealg.MakeNoZero.bytes" 0))) #[], ?_, ?_, ?_⟩
  · rw [hdef]
    have h1 : ¬ (n : Int) < 0 := by omega
    have h2 : ¬ (281474976710656 : Int) < (n : Int) := by omega
    simp [run_underlying ht, h1, h2, Question.forced, newRow, Lib.size_digits, grownCap]
  · rw [Lib.size_digits]
    simpa using grownCap_ge w n 0 e
  · exact digits_one _ _ _ fun v hv => by simp at hv
theorem EntOk.mnz {f : Nat} {fn : Func} {ps : Array TypeId} {t e : TypeId} (hf : P.funcs[f]? = some fn) (hname : (fn.name == "runtime.NumGoroutine") = false) (hb : fn.body.isNone = true) (hn : Extern.findNext fn = none) (he : Extern.find fn = some (Extern.BytealgMakeNoZero.makeNoZero ps #[t])) (ht : P.underlying t = some (.slice e)) : EntOk P G f (fun _ => extMnz e) where
  ok := fun cf _ _ _ l h k hm φ w args hg hl R => by
    obtain ⟨a, r, h1, hm1⟩ := onCons_true hm
    rw [h1] at hl
    cases hl with
    | cons ha hr =>
      obtain ⟨_, _, h2, hm2⟩ := onNil_true hm1
      rw [h2] at hr
      cases hr
      obtain ⟨m, e1, hm3⟩ := onW_true hm2
      obtain ⟨h3, hm4⟩ := both_true hm3
      obtain ⟨h4, hm5⟩ := both_true hm4
      obtain ⟨h5, hm6⟩ := both_true hm5
      have h3 := ble_true h3; have h4 := ble_true h4; have h5 := ble_true h5
      rw [e1] at ha
      obtain ⟨_, rfl⟩ := ha.inv_w
      obtain ⟨n, e2⟩ : ∃ n, n = Nat.sub m bias := ⟨_, rfl⟩
      rw [← e2] at h4 hm6
      have e3 : (m : Int) - 9223372036854775808 = (n : Int) := by
        rw [e2]; show _ = ((m - bias : Nat) : Int)
        unfold bias at h3 ⊢; omega
      obtain ⟨cs, hrun, hle, hone⟩ := run_mnz (P := P) w ps t e ht n (by omega)
      have hnone : ∀ v, φ h.next v = none := fun v => by
        cases hq : φ h.next v with
        | none => rfl
        | some l => have := (R.dom _ _ _ hq).1; omega
      obtain ⟨R', X⟩ := R.new (id := h.next) (nx := h.next + 1) (by omega) (by omega) h5 hnone (T := h.tr) (c := afill n V.any) (n := n) (frz := 0) (elem := e) (ex := false) (cs := cs) (fr := (0, 0)) (base := 0) (B := w.heap.size) (w' := w.drew.drew.alloc (.cells cs e)) (fun _ _ => .inl rfl)
        (acap_afill _ _ (by omega)) (by omega) (fun j hj => by
          have hj2 : j < cs.size := by omega
          refine ⟨cs[j], by rw [Nat.zero_add]; exact Array.getElem?_eq_getElem hj2, ?_, hone _ (Array.getElem_mem _)⟩
          rw [aget_afill _ _ _ (by have := acap_afill n V.any (by omega); omega)]
          exact .any) (fun k => by simp at k) (fun j _ _ => by simp) (push_new _ _) (by show w.heap.size ≤ (w.heap.push _).size; simp) (fun j hj _ => push_old w.drew.drew _ _ hj) rfl rfl rfl (.inr (Nat.le_refl _))
      refine .inl ⟨_, _, by rw [run_callFunc_extern hf hname hb hn he, e3, hrun]; rfl, _, _, _, hm6, ?_, R', X _ (Nat.le_refl _)⟩
      refine RV.sl (l := ⟨w.heap.size, 0, n, cs.size⟩) (Phi.add_same _ _ _ _) (by show 0 + n * 1 ≤ n; omega) hle (fun _ => rfl) ?_
      show 0 + 0 + cs.size * 1 ≤ cs.size
      omega
  ret := fun cf _ l h => .onCons fun a r => .onNil (.onW fun n => .both (.both (.both (.k _))))
  frm := fun cf _ r l => by
    show FrmG r (fun h (k : V → H → Bool) => onCons l fun a r => onNil r (onW a fun n => both (Nat.ble bias n) (both (Nat.ble (Nat.sub n bias) 16777216) (resv 1 h fun id h' =>
      k (.sl id 0 (Nat.sub n bias) 0 1) ⟨h'.next, hset id (.bk (afill (Nat.sub n bias) V.any) (Nat.sub n bias) 0 0 e false true) h'.tr⟩))))
    cases l with
    | x g a b =>
      cases g <;> first | exact .no | skip
      cases b with
      | x g c d =>
        cases g <;> first | exact .no | skip
        cases a <;> first | exact .no | skip
        rename_i n
        intro h hk
        refine FrmAt.both (c := fun _ => Nat.ble bias n) (fun _ => rfl) fun _ => FrmAt.both (c := fun _ => Nat.ble (Nat.sub n bias) 16777216) (fun _ => rfl) fun _ => ?_
        exact frm_resv (n := 1) (f := fun id h (k : V → H → Bool) => k (.sl id 0 (Nat.sub n bias) 0 1) ⟨h.next, hset id (.bk (afill (Nat.sub n bias) V.any) (Nat.sub n bias) 0 0 e false true) h.tr⟩)
          (fun id h hk hi => FrmAt.wr hk (hi 0 (by omega)) _ _) h hk
      | _ => exact .no
    | _ => exact .no
end Go.Bvm
set_option linter.unusedVariables false
namespace Go.Bvm
open Go.ChangeShapes Go.WideShapes Go.ChangeAt Go.RowKit
def litV : DataW Unit → Value
  | .lit (.int k n) => .int k n
  | _ => .nilIface
noncomputable def laidCells (P : Program) : DataW Unit → Array Value
  | .iface _ (.agg [.ptr (.lit (.string nm))]) => match P.cutTypes.find? (·.1 == "internal/reflectlite.rtype"), (List.range P.types.size).find? (fun t => P.rowNamed t nm) with
    | some r, some t => #[.iface r.2 (.agg #[typeHandle P t])]
    | _, _ => #[]
  | .agg l => (l.map litV).toArray
  | d => #[litV d]
noncomputable def layOne (P : Program) (w : World) (x : String × DataW Unit) : World := match P.globalNamed x.1 with
  | some g => { w with heap := w.heap.modify g fun
      | .cells _ t frozen => .cells (laidCells P x.2) t frozen
      | o => o }
  | none => w
noncomputable def layAll (P : Program) : List (String × DataW Unit) → World → World
  | [], w => w
  | x :: r, w => layAll P r (layOne P w x)
theorem layOne_os (P : Program) (w : World) (x : String × DataW Unit) : (layOne P w x).os = w.os := by
  unfold layOne; split <;> rfl
theorem layAll_os (P : Program) : ∀ (l : List (String × DataW Unit)) (w : World), (layAll P l w).os = w.os
  | [], w => rfl
  | x :: r, w => (layAll_os P r _).trans (layOne_os P w x)
noncomputable def laidWorld (P : Program) (os : Os) (laid : List (String × DataW Unit)) : World := layAll P laid (World.holding P os ⟨#[], #[], []⟩)
theorem laidWorld_os (P : Program) (os : Os) (laid : List (String × DataW Unit)) : (laidWorld P os laid).os = os := layAll_os P laid _
theorem law_lifted_laid {H : Type} {enc : TypeId × Value → H} {C : Checked} {os : Os} {f : FuncId} {fn : Func} {s : ChangeSpec} {t tb : TypeId} {conds : List PathCond} {laid : List (String × DataW Unit)}
    (own : ownKnob C.prog.godebug = none) (started : os.Started) (noInit : C.prog.inits.idxOf? f = none) (hfn : C.prog.funcs[f]? = some fn)
    (witness : ∃ (w : World) (tape : Tape) (i : Input), w.os = os ∧ (w.forCall tape i).Shaped C.prog ∧ i.vars = [] ∧ Input.okWide C.prog (w.forCall tape i) .any w.heap.size f i ∧
      ((s.pre enc C.prog fn conds false (w.forCall tape i).memory i.args ∧ laidMetH C.prog laid (w.forCall tape i).memory) ∧ sizedMet enc C.prog fn (OpenSpec.ofChange s) false (w.forCall tape i).memory i.args) ∧ ({ modest := false } : Assume).holds C.prog (lone (Frame.enter C.prog f i.args .normal) [] (w.forCall tape i)))
    (hp : fn.params = #[t]) (hr : fn.resultTypes = #[tb]) (htb : C.prog.underlying tb = some .bool) (hv : s.vars = []) (hs : ∀ d, s.fn H [d] = { results := [.lit (.bool true)], args := [d] })
    (hl : laidOutB C.prog = true) (hrd : C.prog.readableRec t = true) (hrow : t < C.prog.types.size)
    (hcall : ∀ (W : World) (base : Nat) (v : Value), Value.okWide C.prog W .any base t v → Calls C.prog f #[v] W fun e W' => e = .returned (.bool true) ∧ Below W.heap.size W W') :
    ReturnsInHanded { modest := false } C os f .any (fun w args => (s.pre enc C.prog fn conds false w args ∧ laidMetH C.prog laid w) ∧ sizedMet enc C.prog fn (OpenSpec.ofChange s) false w args) (s.post enc C.prog fn false true false false) := by
  refine returnsInHanded_of_change_and (X := fun w _ => laidMetH C.prog laid w) (fun _ _ _ hh h => h.of_heap hh) own started noInit hfn witness ?_
  intro W base args ds gs before hval hW _ _ _ _
  have hW' := hW
  obtain ⟨p, q, hA, hV, rfl, hfz, hnd⟩ := hW
  rw [hp] at hA
  rw [hv] at hV
  obtain ⟨v, d, rfl, rfl, h0⟩ := trodAll_one hA
  obtain ⟨rfl, rfl⟩ := trodVars_none hV
  refine (hcall W base v (hval 0 t v (by rw [hp]; rfl) rfl)).mono fun e W' ⟨he, hb⟩ => ?_
  refine ⟨_, he, [d], [], p ++ [], [], p, [], hW', ?_, ?_, ?_, ?_, fun k => by simp at k⟩
  · rw [hr]
    show DataW.TrodAll enc C.prog W' W.heap.size (fun _ => false) false [tb] [.bool true] (s.fn H ([d] ++ [])).results []
    rw [List.append_nil, hs]
    exact trodAll_mk1 (shut_bool htb true)
  · rw [hp, List.append_nil, hs]
    exact trodAll_mk1 (Below.trod hl hrd hrow h0 hb fun x hx => by have := hW'.lt x (by simp [hx]); simpa using this)
  · rw [hv, List.append_nil, hs]
    exact rfl
  · exact hb.frame _
theorem joinedFacts_of {P : Program} {f : FuncId} {fn : Func} {s : ChangeSpec} {c : OpenClaim}
    (h1 : (c.wf (OpenSpec.ofChange s) && laidOutB P && mapsRowed P && fn.params.all (P.readableRec ·) && namedTie P c.named s.vars && (c.stops == []) && (P.stops == []) && (c.knobs == []) && (P.stopKnobs == [])) = true)
    (h2 : (c.inPlace == P.inPlace f) = true) (h3 : (c.unfollowed == P.unfollowed f) = true) (h4 : (c.recurses == P.recurses f) = true) (h5 : (c.named == P.varsNamed f) = true)
    (h6 : ((c.maps == (fn.params.toList ++ s.plain.varTypes P).any (P.mapsRec ·)) && (c.ifaces == (fn.params.toList ++ s.plain.varTypes P).any (P.ifacesRec ·)) && (c.mapsOut == P.mapsAmong fn.resultTypes.toList) &&
      (c.loops == (fn.params.toList ++ s.plain.varTypes P).any (P.loopsFrom ·)) && (c.wideKeys == (fn.params.toList ++ s.plain.varTypes P ++ fn.resultTypes.toList).any (P.wideKeysFrom ·)) &&
      s.vars.all (P.varReadable ·) && fn.resultTypes.all (fun t => P.readableRec t && decide (t < P.types.size)) && (c.ifacesOut == fn.resultTypes.toList.any (P.ifacesRec ·)) && (c.loopsOut == fn.resultTypes.toList.any (P.loopsFrom ·))) = true)
    (h7 : ((c.plainKeys == P.plainKeys) && c.shortTexts.isNone && P.stopsHeard && P.mayEnter && (c.lifted == P.liftsFinal) && (P.make == some c.make) && (c.kinds == (if c.domain.isEmpty then [] else fn.params.toList.map fun t => match P.underlying t with | some (.int k) => some k | _ => none)) && (c.pinned == c.pinnedBy) &&
      (c.veiled == (fn.params.toList ++ s.plain.varTypes P ++ fn.resultTypes.toList).any (P.veiledRec ·)) && c.veiledFits P fn.params.toList (fn.params.toList ++ s.plain.varTypes P ++ fn.resultTypes.toList)) = true) : joinedFacts P f fn s c = true := by
  simp only [Bool.and_eq_true] at h1 h6 h7
  obtain ⟨⟨⟨⟨⟨⟨⟨⟨a1, a2⟩, a3⟩, a4⟩, a5⟩, a6⟩, a7⟩, a8⟩, a9⟩ := h1
  obtain ⟨⟨⟨⟨⟨⟨⟨⟨b1, b2⟩, b3⟩, b4⟩, b5⟩, b6⟩, b7⟩, b8⟩, b9⟩ := h6
  obtain ⟨⟨⟨⟨⟨⟨⟨⟨⟨d1, d2⟩, d3⟩, d4⟩, d5⟩, d6⟩, d7⟩, d8⟩, d9⟩, d10⟩ := h7
  unfold joinedFacts
  simp only [Bool.and_eq_true]
  exact ⟨⟨⟨⟨⟨⟨⟨⟨⟨⟨⟨⟨⟨⟨⟨⟨⟨⟨⟨⟨⟨⟨⟨⟨⟨⟨⟨⟨⟨⟨⟨a1, a2⟩, a3⟩, a4⟩, a5⟩, a6⟩, a7⟩, a8⟩, a9⟩, h2⟩, h3⟩, h4⟩, h5⟩, b1⟩, b2⟩, b3⟩, b4⟩, b5⟩, b6⟩, b7⟩, b8⟩, b9⟩, d1⟩, d2⟩, d3⟩, d4⟩, d5⟩, d6⟩, d7⟩, d8⟩, d9⟩, d10⟩
end Go.Bvm
set_option linter.unusedVariables false
namespace Go.Bvm
variable {P : Program} {G : Nat → Bool}
noncomputable section
def aL (l : List V) : Nat → Arr → Arr := List.rec (motive := fun _ => Nat → Arr → Arr) (fun _ c => c) (fun v _ ih i c => ih (i + 1) (aset i v c)) l
def rp (n : Nat) (l : List V) (t : List V) : List V := Nat.rec (motive := fun _ => List V) t (fun _ ih => l.append ih) n
def up (n k : Nat) (t : List V) : List V := Nat.rec (motive := fun _ => Nat → List V) (fun _ => t) (fun _ ih k => .w (Nat.add 9223372036854775808 k) :: ih (Nat.succ k)) n k
def lenV (l : List V) : Nat := List.rec (motive := fun _ => Nat) 0 (fun _ _ ih => ih + 1) l
def bkL (l : List V) (ver frz elem : Nat) (ex own : Bool) : Blk := .bk (aL l 0 (fresh (lenV l))) (lenV l) ver frz elem ex own
abbrev Mem := List (Nat × Blk)
abbrev bB (i : Nat) (l : List V) (v f e : Nat) (x o : Bool) : Nat × Blk := (i, bkL l v f e x o)
def putM (L : Mem) (t : T6) : T6 := List.rec (motive := fun _ => T6) t (fun x _ ih => hset x.1 x.2 ih) L
def clrM (L : Mem) (t : T6) : T6 := List.rec (motive := fun _ => T6) t (fun x _ ih => hset x.1 .nb ih) L
def eqC (c c' : Arr) : (n i : Nat) → Bool := Nat.rec (motive := fun _ => Nat → Bool) (fun _ => true) (fun _ ih i => both (eqV (aget i c) (aget i c')) (ih (i + 1)))
def eqT2 (a b : Bool) : Bool := bs a b (nots b)
def onPin (b : Blk) (k : Nat → Nat → Nat → Bool) : Bool := Blk.rec (motive := fun _ => Bool) false (fun _ _ _ _ _ _ _ => false) (fun _ => false) (fun _ _ _ => false) (fun p q r => k p q r) b
def eqBlk (a b : Blk) : Bool := Blk.rec (motive := fun _ => Bool) false
  (fun c size ver frz elem ex own => onBk b fun c' size' ver' frz' elem' ex' own' => both (Nat.beq size size') (both (Nat.beq ver ver') (both (Nat.beq frz frz') (both (Nat.beq elem elem') (both (eqT2 ex ex') (both (eqT2 own own') (both (Nat.ble size (acap c')) (eqC c c' size 0))))))))
  (fun kv => onMp b fun kv' => eqV kv kv') (fun l n pos => onIt b fun l' n' pos' => both (Nat.beq l l') (both (Nat.beq n n') (Nat.beq pos pos'))) (fun p q r => onPin b fun p' q' r' => both (Nat.beq p p') (both (Nat.beq q q') (Nat.beq r r'))) a
def subL (L : Mem) (t : T6) : Bool := List.rec (motive := fun _ => Bool) true (fun x _ ih => both (eqBlk (hget x.1 t) x.2) ih) L
def inL (i : Nat) (L : Mem) : Bool := List.rec (motive := fun _ => Bool) false (fun x _ ih => bs (Nat.beq x.1 i) true ih) L
def wfP (n : Nat) (L : Mem) : Bool := List.rec (motive := fun _ => Bool) true (fun x _ ih => both (Nat.ble (Nat.succ x.1) n) ih) L
def wfQ (n : Nat) (LP L : Mem) : Bool := List.rec (motive := fun _ => Bool) true (fun x _ ih => both (Nat.ble 0 (Nat.succ x.1)) (both (bs (inL x.1 LP) true (Nat.ble n x.1)) ih)) L
def wfM (n n' : Nat) (LP LQ : Mem) : Bool := both (Nat.ble n n') (both (Nat.ble 0 n') (both (wfP n LP) (wfQ n LP LQ)))
def memoA (l0 : V) (n n' : Nat) (v0 : V) (LP LQ : Mem) (l : V) (h : H) (k : KV) : Bool := both (eqV l l0) (both (Nat.beq h.next n) (both (subL LP h.tr) (k v0 ⟨n', putM LQ (clrM LP h.tr)⟩)))
def memoK (n' : Nat) (v0 : V) (LQ : Mem) : KV := fun v h => both (eqV v v0) (both (Nat.beq h.next n') (subL LQ h.tr))
end
theorem lookL : ∀ (L : Mem) (i : Nat), (∃ b, (i, b) ∈ L ∧ (∀ t : T6, (∀ x, x ∈ L → 0 ≤ x.1) → 0 ≤ i → hget i (putM L t) = b) ∧ ∀ t, (∀ x, x ∈ L → 0 ≤ x.1) → 0 ≤ i → hget i (clrM L t) = .nb) ∨
    ((∀ x, x ∈ L → x.1 ≠ i) ∧ (∀ t : T6, (∀ x, x ∈ L → 0 ≤ x.1) → 0 ≤ i → hget i (putM L t) = hget i t) ∧ ∀ t : T6, (∀ x, x ∈ L → 0 ≤ x.1) → 0 ≤ i → hget i (clrM L t) = hget i t)
  | [], i => .inr ⟨fun x h => by simp at h, fun t _ _ => rfl, fun t _ _ => rfl⟩
  | (j, b) :: r, i => by
    by_cases e : i = j
    · subst e
      refine .inl ⟨b, by simp, fun t hL hi => ?_, fun t hL hi => ?_⟩
      · show hget i (hset i b (putM r t)) = b
        rw [hget_hset _ _ _ _ hi hi, if_pos rfl]
      · show hget i (hset i .nb (clrM r t)) = .nb
        rw [hget_hset _ _ _ _ hi hi, if_pos rfl]
    · have p1 : ∀ t : T6, (∀ x, x ∈ (j, b) :: r → 0 ≤ x.1) → 0 ≤ i → hget i (putM ((j, b) :: r) t) = hget i (putM r t) := fun t hL hi => by
        show hget i (hset j b (putM r t)) = _
        rw [hget_hset _ _ _ _ hi (hL (j, b) (by simp)), if_neg e]
      have p2 : ∀ t : T6, (∀ x, x ∈ (j, b) :: r → 0 ≤ x.1) → 0 ≤ i → hget i (clrM ((j, b) :: r) t) = hget i (clrM r t) := fun t hL hi => by
        show hget i (hset j .nb (clrM r t)) = _
        rw [hget_hset _ _ _ _ hi (hL (j, b) (by simp)), if_neg e]
      rcases lookL r i with ⟨c, h1, h2, h3⟩ | ⟨h1, h2, h3⟩
      · exact .inl ⟨c, by simp [h1], fun t hL hi => (p1 t hL hi).trans (h2 t (fun x hx => hL x (by simp [hx])) hi), fun t hL hi => (p2 t hL hi).trans (h3 t (fun x hx => hL x (by simp [hx])) hi)⟩
      · refine .inr ⟨fun x hx => ?_, fun t hL hi => (p1 t hL hi).trans (h2 t (fun x hx => hL x (by simp [hx])) hi), fun t hL hi => (p2 t hL hi).trans (h3 t (fun x hx => hL x (by simp [hx])) hi)⟩
        rcases List.mem_cons.1 hx with rfl | hx
        · exact fun k => e k.symm
        · exact h1 x hx
theorem subL_mem : ∀ {L : Mem} {t : T6}, subL L t = true → ∀ x, x ∈ L → eqBlk (hget x.1 t) x.2 = true
  | [], _, _, x, h => by simp at h
  | y :: r, t, h, x, hx => by
    obtain ⟨h1, h2⟩ := both_true (show both (eqBlk (hget y.1 t) y.2) (subL r t) = true from h)
    rcases List.mem_cons.1 hx with rfl | hx
    · exact h1
    · exact subL_mem h2 x hx
theorem subL_of : ∀ {L : Mem} {t : T6}, (∀ x, x ∈ L → eqBlk (hget x.1 t) x.2 = true) → subL L t = true
  | [], _, _ => rfl
  | y :: r, t, h => by
    show both (eqBlk (hget y.1 t) y.2) (subL r t) = true
    rw [h y (by simp)]
    exact subL_of fun x hx => h x (by simp [hx])
theorem inL_mem : ∀ {i : Nat} {L : Mem}, inL i L = true → ∃ b, (i, b) ∈ L
  | _, [], h => Bool.noConfusion (show false = true from h)
  | i, y :: r, h => by
    rcases bs_cases (show bs (Nat.beq y.1 i) true (inL i r) = true from h) with ⟨h1, _⟩ | ⟨_, h2⟩
    · exact ⟨y.2, by rw [← beq_true h1]; simp⟩
    · obtain ⟨b, hb⟩ := inL_mem h2
      exact ⟨b, by simp [hb]⟩
theorem wfP_mem : ∀ {n : Nat} {L : Mem}, wfP n L = true → ∀ x, x ∈ L → x.1 < n
  | _, [], _, x, h => by simp at h
  | n, y :: r, h, x, hx => by
    obtain ⟨h1, h2⟩ := both_true (show both (Nat.ble (Nat.succ y.1) n) (wfP n r) = true from h)
    rcases List.mem_cons.1 hx with rfl | hx
    · exact ble_true h1
    · exact wfP_mem h2 x hx
theorem wfQ_mem : ∀ {n : Nat} {LP L : Mem}, wfQ n LP L = true → ∀ x, x ∈ L → 0 ≤ x.1 ∧ ((∃ b, (x.1, b) ∈ LP) ∨ n ≤ x.1)
  | _, _, [], _, x, h => by simp at h
  | n, LP, y :: r, h, x, hx => by
    obtain ⟨h1, h2⟩ := both_true (show both (Nat.ble 0 (Nat.succ y.1)) (both (bs (inL y.1 LP) true (Nat.ble n y.1)) (wfQ n LP r)) = true from h)
    obtain ⟨h3, h4⟩ := both_true h2
    rcases List.mem_cons.1 hx with rfl | hx
    · refine ⟨ble_true h1, ?_⟩
      rcases bs_cases h3 with ⟨h5, _⟩ | ⟨_, h5⟩
      · exact .inl (inL_mem h5)
      · exact .inr (ble_true h5)
    · exact wfQ_mem h4 x hx
theorem eqC_ok {φ : Phi} {c c' : Arr} : ∀ (n i : Nat), eqC c c' n i = true → ∀ j, i ≤ j → j < i + n → aget j c = aget j c'
  | 0, i, _, j, h1, h2 => by omega
  | n + 1, i, h, j, h1, h2 => by
    obtain ⟨h3, h4⟩ := both_true (show both (eqV (aget i c) (aget i c')) (eqC c c' n (i + 1)) = true from h)
    by_cases e : j = i
    · subst e; exact eqV_true h3
    · exact eqC_ok (φ := φ) n (i + 1) h4 j (by omega) (by omega)
theorem eqT2_true {a b : Bool} (h : eqT2 a b = true) : a = b := by cases a <;> cases b <;> first | rfl | exact Bool.noConfusion (show false = true from h)
theorem onIt_true' {b : Blk} {k : Nat → Nat → Nat → Bool} (h : onIt b k = true) : ∃ l n p, b = .it l n p ∧ k l n p = true := by
  cases b <;> first | exact Bool.noConfusion (show false = true from h) | exact ⟨_, _, _, rfl, h⟩
theorem onMp_true' {b : Blk} {k : V → Bool} (h : onMp b k = true) : ∃ kv, b = .mp kv ∧ k kv = true := by
  cases b <;> first | exact Bool.noConfusion (show false = true from h) | exact ⟨_, rfl, h⟩
theorem onPin_true {b : Blk} {k : Nat → Nat → Nat → Bool} (h : onPin b k = true) : ∃ p q r, b = .pin p q r ∧ k p q r = true := by
  cases b <;> first | exact Bool.noConfusion (show false = true from h) | exact ⟨_, _, _, rfl, h⟩
theorem eqBlk_ok {a b : Blk} (h : eqBlk a b = true) : a ≠ .nb ∧ b ≠ .nb ∧ owns b = owns a ∧ verOf b = verOf a ∧ ∀ φ w id, BlkOk φ w id a → BlkOk φ w id b := by
  cases a with
  | nb => exact Bool.noConfusion (show false = true from h)
  | bk c size ver frz elem ex own =>
    obtain ⟨c', size', ver', frz', elem', ex', own', rfl, h0⟩ := onBk_true (show onBk b _ = true from h)
    obtain ⟨h1, i1⟩ := both_true h0; obtain ⟨h2, i2⟩ := both_true i1; obtain ⟨h3, i3⟩ := both_true i2; obtain ⟨h4, i4⟩ := both_true i3
    obtain ⟨h5, i5⟩ := both_true i4; obtain ⟨h6, i6⟩ := both_true i5; obtain ⟨h7, i7⟩ := both_true i6
    obtain rfl := beq_true h1; obtain rfl := beq_true h2; obtain rfl := beq_true h3; obtain rfl := beq_true h4
    obtain rfl := eqT2_true h5; obtain rfl := eqT2_true h6
    have h7 := ble_true h7
    refine ⟨by simp, by simp, rfl, rfl, fun φ w id ⟨l, cs, fr, a1, a2, a3, a4, a5, a6, a7, a8, a9, a10⟩ => ⟨l, cs, fr, a1, a2, a3, a4, a5, h7, fun i hi => ?_, a8, a9, a10⟩⟩
    rw [← eqC_ok (φ := φ) _ _ i7 i (by omega) (by omega)]
    exact a7 i hi
  | mp kv =>
    obtain ⟨kv', rfl, h0⟩ := onMp_true' (show onMp b _ = true from h)
    obtain rfl := eqV_true h0
    exact ⟨by simp, by simp, rfl, rfl, fun _ _ _ h => h⟩
  | it l n pos =>
    obtain ⟨l', n', pos', rfl, h0⟩ := onIt_true' (show onIt b _ = true from h)
    obtain ⟨h1, h0⟩ := both_true h0; obtain ⟨h2, h3⟩ := both_true h0
    obtain rfl := beq_true h1; obtain rfl := beq_true h2; obtain rfl := beq_true h3
    exact ⟨by simp, by simp, rfl, rfl, fun _ _ _ h => h⟩
  | pin l n pos =>
    obtain ⟨l', n', pos', rfl, h0⟩ := onPin_true (show onPin b _ = true from h)
    obtain ⟨h1, h0⟩ := both_true h0; obtain ⟨h2, h3⟩ := both_true h0
    obtain rfl := beq_true h1; obtain rfl := beq_true h2; obtain rfl := beq_true h3
    exact ⟨by simp, by simp, rfl, rfl, fun _ _ _ h => h⟩
theorem Rel.less {φ : Phi} {h : H} {w : World} (R : Rel φ h w) {LP : Mem} (hlt : ∀ x, x ∈ LP → 0 ≤ x.1) (hs : subL LP h.tr = true) : Rel φ ⟨h.next, putM LP t6⟩ w where
  next := R.next
  dom := R.dom
  blk := fun id hid => by
    show BlkOk φ w id (hget id (putM LP t6))
    rcases lookL LP id with ⟨b, h1, h2, _⟩ | ⟨_, h2, _⟩
    · rw [h2 _ hlt hid]
      exact (eqBlk_ok (subL_mem hs _ h1)).2.2.2.2 _ _ _ (R.blk id hid)
    · rw [h2 _ hlt hid, hget_t6]; trivial
  apart := fun i j hi hj hne ho hn l m h1 h2 => by
    dsimp only at ho hn h1 h2
    rcases lookL LP i with ⟨b, b1, b2, _⟩ | ⟨_, b2, _⟩
    · rw [b2 _ hlt hi] at ho h1
      obtain ⟨_, _, e1, e2, _⟩ := eqBlk_ok (subL_mem hs _ b1)
      dsimp only at e1 e2
      rw [e1] at ho; rw [e2] at h1
      rcases lookL LP j with ⟨d, d1, d2, _⟩ | ⟨_, d2, _⟩
      · rw [d2 _ hlt hj] at hn h2
        obtain ⟨k1, _, _, e4, _⟩ := eqBlk_ok (subL_mem hs _ d1)
        dsimp only at k1 e4
        rw [e4] at h2
        exact R.apart i j hi hj hne ho k1 l m h1 h2
      · rw [d2 _ hlt hj, hget_t6] at hn; exact absurd rfl hn
    · rw [b2 _ hlt hi, hget_t6] at ho; simp [owns] at ho
theorem memo_ok {cf : CallF} (hcf : CallS P G cf) {f : Nat} {l0 v0 : V} {n n' : Nat} {LP LQ : Mem} (hrun : cf f l0 ⟨n, putM LP t6⟩ (memoK n' v0 LQ) = true) (hwf : wfM n n' LP LQ = true)
    {l : V} {h : H} {k : KV} (hm : memoA l0 n n' v0 LP LQ l h k = true) {φ : Phi} {w : World} {args : List Value} (hg : GlobOk P G φ) (hl : RL φ l args) (R : Rel φ h w) : OpRun P (callFunc f ⟨args⟩) w (FPost k φ h w) := by
  obtain ⟨m1, hm⟩ := both_true hm
  obtain ⟨m2, hm⟩ := both_true hm
  obtain ⟨hs, hk⟩ := both_true hm
  obtain ⟨w1, hwf⟩ := both_true hwf
  obtain ⟨w2, hwf⟩ := both_true hwf
  obtain ⟨w3, w4⟩ := both_true hwf
  have w1 := ble_true w1; have w2 := ble_true w2
  have hPn := wfP_mem w3
  have hQ := wfQ_mem w4
  have hP : ∀ x, x ∈ LP → 0 ≤ x.1 := fun x hx => by have := hPn x hx; omega
  have hQlt : ∀ x, x ∈ LQ → 0 ≤ x.1 := fun x hx => (hQ x hx).1
  obtain rfl := eqV_true m1
  obtain rfl := beq_true m2
  have Rp := R.less hP hs
  refine (hcf f l _ _ hrun φ w args hg hl Rp).mono ?_
  rintro c w' ⟨v, h', φ', hK, rv, R', X⟩
  obtain ⟨k1, hK⟩ := both_true hK
  obtain ⟨k2, hq⟩ := both_true hK
  obtain rfl := eqV_true k1
  obtain rfl := beq_true k2
  have look : ∀ i, 0 ≤ i → (∃ b, hget i (putM LQ (clrM LP h.tr)) = b ∧ eqBlk (hget i h'.tr) b = true) ∨
      ((∀ x, x ∈ LP → x.1 ≠ i) ∧ hget i (putM LQ (clrM LP h.tr)) = hget i h.tr) ∨ hget i (putM LQ (clrM LP h.tr)) = .nb := fun i hi => by
    rcases lookL LQ i with ⟨b, b1, b2, _⟩ | ⟨_, b2, _⟩
    · exact .inl ⟨b, b2 _ hQlt hi, subL_mem hq _ b1⟩
    · rcases lookL LP i with ⟨b, b1, _, b3⟩ | ⟨d1, _, d3⟩
      · exact .inr (.inr ((b2 _ hQlt hi).trans (b3 _ hP hi)))
      · exact .inr (.inl ⟨d1, (b2 _ hQlt hi).trans (d3 _ hP hi)⟩)
  have offP : ∀ i, 0 ≤ i → (∀ x, x ∈ LP → x.1 ≠ i) → hget i (putM LP t6) = .nb := fun i hi hn => by
    rcases lookL LP i with ⟨b, b1, _, _⟩ | ⟨_, b2, _⟩
    · exact absurd rfl (hn _ b1)
    · rw [b2 _ hP hi, hget_t6]
  have inP : ∀ i, 0 ≤ i → hget i (putM LP t6) ≠ .nb → (∃ x, x ∈ LP ∧ x.1 = i) ∧ hget i h.tr ≠ .nb ∧ owns (hget i (putM LP t6)) = owns (hget i h.tr) ∧ verOf (hget i (putM LP t6)) = verOf (hget i h.tr) := fun i hi hn => by
    rcases lookL LP i with ⟨b, b1, b2, _⟩ | ⟨_, b2, _⟩
    · rw [b2 _ hP hi]
      obtain ⟨q1, q2, q3, q4, _⟩ := eqBlk_ok (subL_mem hs _ b1)
      exact ⟨⟨_, b1, rfl⟩, q1, q3, q4⟩
    · rw [b2 _ hP hi, hget_t6] at hn; exact absurd rfl hn
  have old : ∀ i, 0 ≤ i → (∀ x, x ∈ LP → x.1 ≠ i) → hget i h.tr ≠ .nb → i < h.next ∧ ∀ v, φ' i v = φ i v := fun i hi hn hnb => by
    have hlt : i < h.next := by
      have := R.blk i hi
      cases hb : hget i h.tr with
      | nb => exact absurd hb hnb
      | bk => rw [hb] at this; obtain ⟨l, _, _, e, _⟩ := this; exact (R.dom _ _ _ e).1
      | mp => rw [hb] at this; obtain ⟨l, _, _, e, _⟩ := this; exact (R.dom _ _ _ e).1
      | it => rw [hb] at this; obtain ⟨l, _, e, _⟩ := this; exact (R.dom _ _ _ e).1
      | pin => rw [hb] at this; obtain ⟨l, _, _, e, _⟩ := this; exact (R.dom _ _ _ e).1
    exact ⟨hlt, (X.dead i hlt (offP i hi hn)).2⟩
  have ownP : ∀ B, Own φ (putM LP t6) B → ∃ i l, 0 ≤ i ∧ (∃ x, x ∈ LP ∧ x.1 = i) ∧ owns (hget i h.tr) = true ∧ φ i (verOf (hget i h.tr)) = some l ∧ l.B = B := by
    rintro B ⟨i, l, hi, ho, hv, hB⟩
    have hn : hget i (putM LP t6) ≠ .nb := fun e => by rw [e] at ho; simp [owns] at ho
    obtain ⟨q1, q2, q3, q4⟩ := inP i hi hn
    exact ⟨i, l, hi, q1, by rw [← q3]; exact ho, by rw [← q4]; exact hv, hB⟩
  have visP : ∀ B, Vis φ (putM LP t6) B → ∃ i l, 0 ≤ i ∧ (∃ x, x ∈ LP ∧ x.1 = i) ∧ hget i h.tr ≠ .nb ∧ φ i (verOf (hget i h.tr)) = some l ∧ l.B = B := by
    rintro B ⟨i, l, hi, hn, hv, hB⟩
    obtain ⟨q1, q2, q3, q4⟩ := inP i hi hn
    exact ⟨i, l, hi, q1, q2, by rw [← q4]; exact hv, hB⟩
  have ne_of : ∀ {i j : Nat}, (∃ x, x ∈ LP ∧ x.1 = i) → (∀ x, x ∈ LP → x.1 ≠ j) → i ≠ j := by
    rintro i j ⟨x, hx, rfl⟩ hn; exact hn x hx
  have hNew : Rel φ' ⟨h'.next, putM LQ (clrM LP h.tr)⟩ w' := by
    refine ⟨R'.next, R'.dom, fun id hid => ?_, fun i j hi hj hne ho hn l m h1 h2 => ?_⟩
    · show BlkOk φ' w' id (hget id (putM LQ (clrM LP h.tr)))
      rcases look id hid with ⟨b, e1, e2⟩ | ⟨hn, e1⟩ | e1
      · rw [e1]; exact (eqBlk_ok e2).2.2.2.2 _ _ _ (R'.blk id hid)
      · rw [e1]
        by_cases hnb : hget id h.tr = .nb
        · rw [hnb]; trivial
        · obtain ⟨hlt, hφ⟩ := old id hid hn hnb
          have keep : ∀ l, φ id (verOf (hget id h.tr)) = some l → w'.heap[l.B]? = w.heap[l.B]? := fun l hl => by
            refine X.frame _ (R.dom _ _ _ hl).2.1 fun hO => ?_
            obtain ⟨i2, l2, hi2, hin, ho2, hv2, hB⟩ := ownP _ hO
            exact R.apart i2 id hi2 hid (ne_of hin hn) ho2 hnb l2 l hv2 hl hB
          have := R.blk id hid
          cases hb : hget id h.tr with
          | nb => exact absurd hb hnb
          | bk c size ver frz elem ex own =>
            rw [hb] at this keep
            obtain ⟨l, cs, fr, a1, a2, a3, a4, a5, a6, a7, a8, a9, a10⟩ := this
            exact ⟨l, cs, fr, by rw [hφ]; exact a1, a2, by rw [keep l a1]; exact a3, a4, a5, a6, fun i hi => let ⟨v, x1, x2, x3⟩ := a7 i hi; ⟨v, x1, x2.mono X.le, x3⟩, fun v hv => by rw [hφ]; exact a8 v hv, a9, a10⟩
          | mp kv =>
            rw [hb] at this keep
            obtain ⟨l, es, clock, a1, a2, a3, a4, a5⟩ := this
            exact ⟨l, es, clock, by rw [hφ]; exact a1, a2, by rw [keep l a1]; exact a3, a4.mono X.le, fun v hv => by rw [hφ]; exact a5 v hv⟩
          | pin p q r =>
            rw [hb] at this keep
            obtain ⟨l, el, fr, a1, a2, a3, a5⟩ := this
            exact ⟨l, el, fr, by rw [hφ]; exact a1, a2, by rw [keep l a1]; exact a3, fun v hv => by rw [hφ]; exact a5 v hv⟩
          | it ln nn pos =>
            rw [hb] at this keep
            obtain ⟨l, s, a1, a2, a3, a4, a5, a6, a7⟩ := this
            exact ⟨l, s, by rw [hφ]; exact a1, a2, by rw [keep l a1]; exact a3, a4, a5, a6, fun v hv => by rw [hφ]; exact a7 v hv⟩
      · rw [e1]; trivial
    · dsimp only at ho hn h1 h2
      rcases look i hi with ⟨b, e1, e2⟩ | ⟨in1, e1⟩ | e1
      · rw [e1] at ho h1
        obtain ⟨q1, q2, q3, q4, _⟩ := eqBlk_ok e2
        rw [q3] at ho; rw [q4] at h1
        rcases look j hj with ⟨d, e3, e4⟩ | ⟨jn, e3⟩ | e3
        · rw [e3] at hn h2
          obtain ⟨r1, r2, r3, r4, _⟩ := eqBlk_ok e4
          rw [r4] at h2
          exact R'.apart i j hi hj hne ho r1 l m h1 h2
        · rw [e3] at hn h2
          obtain ⟨hlt, hφ⟩ := old j hj jn hn
          rw [hφ] at h2
          intro hB
          have hsz : m.B < w.heap.size := (R.dom _ _ _ h2).2.1
          obtain ⟨i2, l2, hi2, hin, ho2, hv2, hB2⟩ := ownP _ (X.own l.B (by rw [hB]; exact hsz) ⟨i, l, hi, ho, h1, rfl⟩)
          exact R.apart i2 j hi2 hj (ne_of hin jn) ho2 hn l2 m hv2 h2 (hB2.trans hB)
        · rw [e3] at hn; exact absurd rfl hn
      · rw [e1] at ho h1
        have hnb : hget i h.tr ≠ .nb := fun e => by rw [e] at ho; simp [owns] at ho
        obtain ⟨hlt, hφ⟩ := old i hi in1 hnb
        rw [hφ] at h1
        have hsz : l.B < w.heap.size := (R.dom _ _ _ h1).2.1
        rcases look j hj with ⟨d, e3, e4⟩ | ⟨jn, e3⟩ | e3
        · rw [e3] at hn h2
          obtain ⟨r1, r2, r3, r4, _⟩ := eqBlk_ok e4
          rw [r4] at h2
          intro hB
          obtain ⟨i2, l2, hi2, hin, hn2, hv2, hB2⟩ := visP _ (X.vis m.B (by rw [← hB]; exact hsz) ⟨j, m, hj, r1, h2, rfl⟩)
          exact R.apart i i2 hi hi2 (fun e => ne_of hin in1 e.symm) ho hn2 l l2 h1 hv2 (hB.trans hB2.symm)
        · rw [e3] at hn h2
          obtain ⟨_, hφ2⟩ := old j hj jn hn
          rw [hφ2] at h2
          exact R.apart i j hi hj hne ho hn l m h1 h2
        · rw [e3] at hn; exact absurd rfl hn
      · rw [e1] at ho; simp [owns] at ho
  refine ⟨v, ⟨h'.next, putM LQ (clrM LP h.tr)⟩, φ', hk, rv, hNew, X.le, X.os, X.tape, X.output, X.size, w1, fun B hB hO => ?_, fun B hB hV => ?_, fun B hB hO => X.frame B hB fun k => ?_, fun id hid hnb => ?_⟩
  · obtain ⟨i, l, hi, ho, hv, e⟩ := hO
    rcases look i hi with ⟨b, e1, e2⟩ | ⟨in1, e1⟩ | e1
    · rw [e1] at ho hv
      obtain ⟨q1, q2, q3, q4, _⟩ := eqBlk_ok e2
      obtain ⟨i2, l2, hi2, _, ho2, hv2, hB2⟩ := ownP _ (X.own B hB ⟨i, l, hi, by rw [← q3]; exact ho, by rw [← q4]; exact hv, e⟩)
      exact ⟨i2, l2, hi2, ho2, hv2, hB2⟩
    · rw [e1] at ho hv
      have hnb : hget i h.tr ≠ .nb := fun e => by rw [e] at ho; simp [owns] at ho
      rw [(old i hi in1 hnb).2] at hv
      exact ⟨i, l, hi, ho, hv, e⟩
    · rw [e1] at ho; simp [owns] at ho
  · obtain ⟨i, l, hi, hn, hv, e⟩ := hV
    rcases look i hi with ⟨b, e1, e2⟩ | ⟨in1, e1⟩ | e1
    · rw [e1] at hv
      obtain ⟨q1, q2, q3, q4, _⟩ := eqBlk_ok e2
      obtain ⟨i2, l2, hi2, _, hn2, hv2, hB2⟩ := visP _ (X.vis B hB ⟨i, l, hi, q1, by rw [← q4]; exact hv, e⟩)
      exact ⟨i2, l2, hi2, hn2, hv2, hB2⟩
    · rw [e1] at hn hv
      rw [(old i hi in1 hn).2] at hv
      exact ⟨i, l, hi, hn, hv, e⟩
    · exact absurd e1 hn
  · obtain ⟨i2, l2, hi2, _, ho2, hv2, hB2⟩ := ownP _ k
    exact hO ⟨i2, l2, hi2, ho2, hv2, hB2⟩
  · have hid2 : 0 ≤ id := by have := R.next; omega
    have hnP : ∀ x, x ∈ LP → x.1 ≠ id := fun x hx e => by
      have := (eqBlk_ok (subL_mem hs x hx)).1
      rw [e] at this; exact this hnb
    have hnQ : ∀ x, x ∈ LQ → x.1 ≠ id := fun x hx e => by
      rcases (hQ x hx).2 with ⟨b, hb⟩ | hle
      · exact hnP _ hb e
      · omega
    refine ⟨?_, (X.dead id hid (offP id hid2 hnP)).2⟩
    rcases look id hid2 with ⟨b, e1, e2⟩ | ⟨_, e1⟩ | e1
    · exfalso
      rcases lookL LQ id with ⟨d, d1, _, _⟩ | ⟨_, d2, _⟩
      · exact hnQ _ d1 rfl
      · rw [d2 _ hQlt hid2] at e1
        rcases lookL LP id with ⟨d, d1, _, _⟩ | ⟨_, _, d3⟩
        · exact hnP _ d1 rfl
        · rw [d3 _ hP hid2, hnb] at e1
          exact (eqBlk_ok e2).2.1 e1.symm
    · exact e1.trans hnb
    · exact e1
theorem putM_comm {r : Nat} (b : Blk) : ∀ (L : Mem) (t : T6), (∀ x, x ∈ L → cl x.1 ≠ cl r) → putM L (hset r b t) = hset r b (putM L t)
  | [], _, _ => rfl
  | x :: q, t, h => by
    show hset x.1 x.2 (putM q (hset r b t)) = hset r b (hset x.1 x.2 (putM q t))
    rw [putM_comm b q t fun y hy => h y (by simp [hy]), hset_comm (h x (by simp))]
theorem clrM_comm {r : Nat} (b : Blk) : ∀ (L : Mem) (t : T6), (∀ x, x ∈ L → cl x.1 ≠ cl r) → clrM L (hset r b t) = hset r b (clrM L t)
  | [], _, _ => rfl
  | x :: q, t, h => by
    show hset x.1 .nb (clrM q (hset r b t)) = hset r b (hset x.1 .nb (clrM q t))
    rw [clrM_comm b q t fun y hy => h y (by simp [hy]), hset_comm (h x (by simp))]
theorem EntOk.memo {f : Nat} {A : CallF → V → H → KV → Bool} (e : EntOk P G f A) {cf0 : CallF} (hcf0 : CallS P G cf0) {l0 v0 : V} {n n' : Nat} {LP LQ : Mem} (hrun : cf0 f l0 ⟨n, putM LP t6⟩ (memoK n' v0 LQ) = true) (hwf : wfM n n' LP LQ = true) :
    EntOk P G f (fun cf l h k => bs (Nat.beq h.next n) (memoA l0 n n' v0 LP LQ l h k) (A cf l h k)) where
  ok := fun cf h1 h2 h3 l h k hm φ w args hg hl R => by
    rcases bs_cases hm with ⟨_, hm⟩ | ⟨_, hm⟩
    · exact memo_ok hcf0 hrun hwf hm hg hl R
    · exact e.ok cf h1 h2 h3 l h k hm φ w args hg hl R
  ret := fun cf h1 l h => .bs (.both (.both (.both (.k _)))) (e.ret cf h1 l h)
  frm := fun cf h1 r l h hk => by
    show FrmAt r (fun h (k : V → H → Bool) => bs (Nat.beq h.next n) (memoA l0 n n' v0 LP LQ l h k) (A cf l h k)) h
    cases hb : Nat.beq h.next n with
    | false =>
      rcases e.frm cf h1 r l h hk with e0 | ⟨a, h2, e1, k1, e2⟩
      · exact .inl fun k => by show bs (Nat.beq h.next n) _ _ = false; rw [hb]; exact e0 k
      · exact .inr ⟨a, h2, fun k => by show bs (Nat.beq h.next n) _ _ = _; rw [hb]; exact e1 k, k1, fun b k => by show bs (Nat.beq h.next n) _ _ = _; rw [hb]; exact e2 b k⟩
    | true =>
      cases c1 : eqV l l0 with
      | false => exact .inl fun k => by show bs (Nat.beq h.next n) (both (eqV l l0) _) _ = false; rw [hb, c1]; rfl
      | true =>
        cases c2 : subL LP h.tr with
        | false => exact .inl fun k => by show bs (Nat.beq h.next n) (both (eqV l l0) (both (Nat.beq h.next n) (both (subL LP h.tr) _))) _ = false; rw [hb, c1, c2]; rfl
        | true =>
          obtain ⟨w1, hwf⟩ := both_true hwf
          obtain ⟨w2, hwf⟩ := both_true hwf
          obtain ⟨w3, w4⟩ := both_true hwf
          have w1 := ble_true w1; have w2 := ble_true w2
          have hPn := wfP_mem w3
          have hQ := wfQ_mem w4
          have hbn := beq_true hb
          have hr := hk.lt; have hrn := hk.next
          have hP : ∀ x, x ∈ LP → 0 ≤ x.1 := fun x hx => by have := hPn x hx; omega
          have hnP : ∀ x, x ∈ LP → x.1 ≠ r := fun x hx q => by
            have := (eqBlk_ok (subL_mem c2 x hx)).1
            rw [q] at this; exact this hk.nb
          have hnQ : ∀ x, x ∈ LQ → x.1 ≠ r := fun x hx q => by
            rcases (hQ x hx).2 with ⟨b, hb⟩ | hle
            · exact hnP _ hb q
            · omega
          have cP : ∀ x, x ∈ LP → cl x.1 ≠ cl r := fun x hx => by rw [cl_id (hP x hx), cl_id hr]; exact hnP x hx
          have cQ : ∀ x, x ∈ LQ → cl x.1 ≠ cl r := fun x hx => by rw [cl_id (hQ x hx).1, cl_id hr]; exact hnQ x hx
          have hsub : ∀ b, subL LP (hset r b h.tr) = true := fun b => subL_of fun x hx => by
            rw [hget_hset _ _ _ _ (hP x hx) hr, if_neg (hnP x hx)]; exact subL_mem c2 x hx
          refine .inr ⟨v0, ⟨n', putM LQ (clrM LP h.tr)⟩, fun k => ?_, ⟨hr, by show r < n'; omega, ?_⟩, fun b k => ?_⟩
          · show bs (Nat.beq h.next n) (both (eqV l l0) (both (Nat.beq h.next n) (both (subL LP h.tr) _))) _ = _
            rw [hb, c1, c2]; rfl
          · show hget r (putM LQ (clrM LP h.tr)) = .nb
            rcases lookL LQ r with ⟨d, d1, _, _⟩ | ⟨_, d2, _⟩
            · exact absurd rfl (hnQ _ d1)
            · rw [d2 _ (fun x hx => (hQ x hx).1) hr]
              rcases lookL LP r with ⟨d, d1, _, _⟩ | ⟨_, _, d3⟩
              · exact absurd rfl (hnP _ d1)
              · rw [d3 _ hP hr]; exact hk.nb
          · show bs (Nat.beq h.next n) (both (eqV l l0) (both (Nat.beq h.next n) (both (subL LP (hset r b h.tr)) (k v0 ⟨n', putM LQ (clrM LP (hset r b h.tr))⟩)))) _ = _
            rw [hb, c1, hsub, clrM_comm b LP h.tr cP, putM_comm b LQ _ cQ]; rfl
theorem EntOk.split {f : Nat} {A B : CallF → V → H → KV → Bool} (n : Nat) (a : EntOk P G f A) (b : EntOk P G f B) : EntOk P G f (fun cf l h k => bs (Nat.ble n h.next) (A cf l h k) (B cf l h k)) where
  ok := fun cf h1 h2 h3 l h k hm => by
    replace hm : bs (Nat.ble n h.next) (A cf l h k) (B cf l h k) = true := hm
    cases e : Nat.ble n h.next with
    | true => rw [e] at hm; exact a.ok cf h1 h2 h3 l h k hm
    | false => rw [e] at hm; exact b.ok cf h1 h2 h3 l h k hm
  ret := fun cf h1 l h => by
    show RetV (fun k => bs (Nat.ble n h.next) (A cf l h k) (B cf l h k))
    cases Nat.ble n h.next with
    | true => exact a.ret cf h1 l h
    | false => exact b.ret cf h1 l h
  frm := fun cf h1 r l h hk => by
    have ha := a.frm cf h1 r l h hk
    have hb := b.frm cf h1 r l h hk
    cases e : Nat.ble n h.next with
    | true =>
      rcases ha with e1 | ⟨u, h', e1, k1, e2⟩
      · exact .inl fun k => by show bs (Nat.ble n h.next) _ _ = _; rw [e]; exact e1 k
      · exact .inr ⟨u, h', fun k => by show bs (Nat.ble n h.next) _ _ = _; rw [e]; exact e1 k, k1, fun b k => by show bs (Nat.ble n h.next) _ _ = _; rw [e]; exact e2 b k⟩
    | false =>
      rcases hb with e1 | ⟨u, h', e1, k1, e2⟩
      · exact .inl fun k => by show bs (Nat.ble n h.next) _ _ = _; rw [e]; exact e1 k
      · exact .inr ⟨u, h', fun k => by show bs (Nat.ble n h.next) _ _ = _; rw [e]; exact e1 k, k1, fun b k => by show bs (Nat.ble n h.next) _ _ = _; rw [e]; exact e2 b k⟩
theorem TblOk.over {t : CallF → CallF} (ht : TblOk P G t) {f : Nat} {A : CallF → V → H → KV → Bool} (e : EntOk P G f A) : TblOk P G (fun cf g => (bs (Nat.beq g f) (A cf) (t cf g) : V → H → KV → Bool)) where
  ok := fun cf h1 h2 h3 g l h k hm => by
    replace hm : (bs (Nat.beq g f) (A cf) (t cf g) : V → H → KV → Bool) l h k = true := hm
    cases hb : Nat.beq g f with
    | false => rw [hb, bs_false] at hm; exact ht.ok cf h1 h2 h3 g l h k hm
    | true =>
      rw [hb, bs_true] at hm
      obtain rfl := beq_true hb
      exact e.ok cf h1 h2 h3 l h k hm
  ret := fun cf h1 g l h => by
    show RetV ((bs (Nat.beq g f) (A cf) (t cf g) : V → H → KV → Bool) l h)
    cases hb : Nat.beq g f with
    | false => exact ht.ret cf h1 g l h
    | true => exact e.ret cf h1 l h
  frm := fun cf h1 r g l => by
    show FrmG r (fun h (k : V → H → Bool) => (bs (Nat.beq g f) (A cf) (t cf g) : V → H → KV → Bool) l h k)
    cases hb : Nat.beq g f with
    | false => exact ht.frm cf h1 r g l
    | true => exact e.frm cf h1 r l
end Go.Bvm
set_option linter.unusedVariables false
namespace Go.Bvm
open Go.RowKit (Below)
variable {P : Program} {G : Nat → Bool}
def uptoS {α : Type} (f : Nat → α) (k : Nat) : List α := (List.range k).map f
theorem uptoS_succ {α : Type} (f : Nat → α) (k : Nat) : uptoS f (k + 1) = uptoS f k ++ [f k] := by simp [uptoS, List.range_succ]
theorem uptoS_length {α : Type} (f : Nat → α) (k : Nat) : (uptoS f k).length = k := by simp [uptoS]
def backF (len : Nat) (z : Nat → Int) (j : Nat) : Nat × Int := (len - 1 - j, z (len - 1 - j))
def IntsAt (W : World) (b : Nat) (sv : Value) (len : Nat) (z : Nat → Int) : Prop :=
  (sv = .slice none 0 0 ∧ len = 0) ∨ ∃ a off cap, sv = .slice (some a) len cap ∧ (0 < len → a = ⟨b, off, none⟩) ∧ ∀ j, j < len → W.cell? ⟨b, off + j, none⟩ = some (.int .i64 (z j))
def shStep (i : Int) (aS aD : Nat → Int) (x : Option (Int × Int)) (v : Int) : Option (Int × Int) := match x with
  | some (sz, dp) => if 0 ≤ v ∧ v = i - sz then some (sz + aS v.toNat, max dp (aD v.toNat)) else none
  | none => none
def shSt (i : Int) (aS aD : Nat → Int) (vs : List (Nat × Int)) : Option (Int × Int) := (vs.map (·.2)).foldl (shStep i aS aD) (some (1, 0))
theorem shSt_snoc (i : Int) (aS aD : Nat → Int) (pre : List (Nat × Int)) (x : Nat × Int) : shSt i aS aD (pre ++ [x]) = shStep i aS aD (shSt i aS aD pre) x.2 := by
  simp [shSt, List.foldl_append]
def ShOut (i : Nat) (kind : Int) (aS aD : Nat → Int) (len : Nat) (z : Nat → Int) (sz dp : Int) (ok : Bool) : Prop :=
  (∃ d, shSt i aS aD (uptoS (backF len z) len) = some (sz, d) ∧ dp = (if 6 ≤ kind then d + 1 else d) ∧ ok = decide (dp ≤ 8)) ∨
  (ok = false ∧ ∃ k, k < len ∧ shSt i aS aD (uptoS (backF len z) k) = some (sz, dp) ∧ ¬ (0 ≤ z (len - 1 - k) ∧ z (len - 1 - k) = i - sz))
def ShC (P : Program) (f : Nat) : Prop := ∀ (gd : Nat → Prop) (lB lo llen lcap aB ao : Nat) (aA : Option Addr) (alen acap : Nat), (0 < alen → aA = some ⟨aB, ao, none⟩) → ∀ (i : Nat) (kind : Int) (sa : Option Addr) (slen scap pB len : Nat) (z : Nat → Int) (aS aD : Nat → Int) (w : World),
    lB < w.heap.size → aB < w.heap.size → pB < w.heap.size → i < llen → i ≤ 1000000000 →
    w.cell? ⟨lB, lo + i * 5, none⟩ = some (.int .i64 kind) → w.cell? ⟨lB, lo + i * 5 + 4, none⟩ = some (.slice sa slen scap) →
    len * 8 ≤ 140737488351232 → IntsAt w pB (.slice sa slen scap) len z →
    (∀ j, j < alen → gd j → w.cell? ⟨aB, ao + j * 2, none⟩ = some (.int .i64 (aS j)) ∧ w.cell? ⟨aB, ao + j * 2 + 1, none⟩ = some (.int .i64 (aD j))) →
    (∀ pre : List (Nat × Int), pre.length < len → ∀ sz dp, shSt i aS aD pre = some (sz, dp) → 0 ≤ (i : Int) - sz →
      ((i : Int) - sz).toNat < alen ∧ 1 ≤ aS ((i : Int) - sz).toNat ∧ aS ((i : Int) - sz).toNat ≤ 1000000000 ∧ 0 ≤ aD ((i : Int) - sz).toNat ∧ aD ((i : Int) - sz).toNat ≤ 1000000000 ∧ gd ((i : Int) - sz).toNat) →
    Calls P f #[.slice (some ⟨lB, lo, none⟩) llen lcap, .slice aA alen acap, .int .i64 i] w fun e W' => ∃ sz dp ok, e = .returned (.tuple #[.agg #[.int .i64 sz, .int .i64 dp], .bool ok]) ∧ ShOut i kind aS aD len z sz dp ok ∧ Below w.heap.size w W'
noncomputable section
def onArr (es : Nat) (s : V) (h : H) (f : Nat → Nat → Arr → Bool) : Bool := onSl s (f 0 0 (.a1 z1)) fun id off len ver e => both (Nat.beq e es) (onBk (hget id h.tr) fun c _ bver _ _ _ _ => both (Nat.beq ver bver) (f off len c))
def shAt (ao alen : Nat) (c : Arr) (m : Nat) (k : Nat → Nat → Bool) : Bool :=
  both (Nat.ble (Nat.succ m) alen) (onW (aget (Nat.add ao (Nat.mul m 2)) c) fun s => onW (aget (Nat.succ (Nat.add ao (Nat.mul m 2))) c) fun d =>
    both (Nat.ble (Nat.succ bias) s) (both (Nat.ble s (Nat.add bias 1000000000)) (both (Nat.ble bias d) (both (Nat.ble d (Nat.add bias 1000000000)) (k (Nat.sub s bias) (Nat.sub d bias))))))
def shChk (ao alen : Nat) (c : Arr) (i : Nat) : (n sz : Nat) → Bool := Nat.rec (motive := fun _ => Nat → Bool) (fun _ => true) (fun _ ih sz => bs (Nat.ble sz i) (shAt ao alen c (Nat.sub i sz) fun s _ => ih (Nat.add sz s)) true)
def shLoop (ao alen : Nat) (c : Arr) (i po : Nat) (pc : Arr) (k : Nat → Nat → Bool → Bool) : (n sz dp : Nat) → Bool := Nat.rec (motive := fun _ => Nat → Nat → Bool) (fun sz dp => k sz dp true)
  (fun n ih sz dp => onW (aget (Nat.add po n) pc) fun v => bs (both (Nat.ble sz i) (Nat.beq v (Nat.add bias (Nat.sub i sz)))) (shAt ao alen c (Nat.sub i sz) fun s d => ih (Nat.add sz s) (bs (Nat.ble dp d) d dp)) (k sz dp false))
def shRes (sz dp : Nat) (ok : Bool) : V := .x .tup (.x .cons (.x .agg (.x .cons (.w (Nat.add bias sz)) (.x .cons (.w (Nat.add bias dp)) V.nil)) V.nil) (.x .cons (.t ok) V.nil)) V.nil
def shFin (kind : Nat) (k : V → Bool) (sz dp : Nat) (go : Bool) : Bool :=
  both (Nat.ble sz 1000000000000) (both (Nat.ble dp 1000000000000) (bs go (bs (Nat.ble (Nat.add bias 6) kind) (k (shRes sz (Nat.succ dp) (Nat.ble (Nat.succ dp) 8))) (k (shRes sz dp (Nat.ble dp 8)))) (k (shRes sz dp false))))
def shWs (po : Nat) (pc : Arr) : Nat → Bool := Nat.rec (motive := fun _ => Bool) true (fun n ih => onW (aget (Nat.add po n) pc) fun _ => ih)
def shRest (ao al : Nat) (ac : Arr) (i kd po pl : Nat) (pc : Arr) (k : V → Bool) : Bool :=
  both (Nat.ble pl 4096) (both (shWs po pc pl) (both (shChk ao al ac i pl 1) (shLoop ao al ac i po pc (shFin kd k) pl 1 0)))
def extSh (l : V) (h : H) (k : KV) : Bool := onCons l fun a r => onCons r fun b r => onCons r fun x r => onNil r (onW x fun m => both (Nat.ble bias m) (both (Nat.ble m (Nat.add bias 1000000000))
  (onArr 5 a h fun lo ll lc => both (Nat.ble (Nat.succ (Nat.sub m bias)) ll) (onArr 2 b h fun ao al ac => onW (aget (Nat.add lo (Nat.mul (Nat.sub m bias) 5)) lc) fun kd => onArr 1 (aget (Nat.add (Nat.add lo (Nat.mul (Nat.sub m bias) 5)) 4) lc) h fun po pl pc =>
    shRest ao al ac (Nat.sub m bias) kd po pl pc fun v => k v h))))
end
theorem onArr_true {es : Nat} {s : V} {h : H} {f : Nat → Nat → Arr → Bool} (hm : onArr es s h f = true) {φ : Phi} {v : Value} {w : World} (r : RV φ s v) (R : Rel φ h w) :
    ∃ off len c, f off len c = true ∧ ((v = .slice none 0 0 ∧ len = 0) ∨ ∃ B a base cap, v = .slice (some a) len cap ∧ B < w.heap.size ∧ (0 < len → a = ⟨B, base + off, none⟩) ∧ ∀ j, j < off + len * es → ∃ v, w.cell? ⟨B, base + j, none⟩ = some v ∧ RV φ (aget j c) v) := by
  unfold onArr at hm
  cases r with
  | sl h1 h2 h3 h4 h5 =>
    rename_i id off len ver esz cap a l
    obtain ⟨g1, g2⟩ := both_true hm
    obtain rfl := beq_true g1
    obtain ⟨c, size, bver, frz, elem, ex, own, e2, g3⟩ := onBk_true g2
    obtain ⟨g4, g5⟩ := both_true g3
    obtain rfl := beq_true g4
    refine ⟨_, _, _, g5, .inr ⟨l.B, a, l.base, cap, rfl, (R.dom _ _ _ h1).2.1, fun hl => h4 (by omega), fun j hj => ?_⟩⟩
    obtain ⟨v, hv, rv, _⟩ := R.cell h1 e2 (i := j) (by omega)
    exact ⟨v, hv, rv⟩
  | slnil => exact ⟨_, _, _, hm, .inl ⟨rfl, rfl⟩⟩
  | _ => exact Bool.noConfusion (show false = true from hm)
theorem frm_onArr {α : Type} {r : Nat} {h : H} (hk : Kept r h) {es : Nat} {s : V} {f : Nat → Nat → Arr → H → (α → H → Bool) → Bool} (hf : ∀ a b c, FrmAt r (f a b c) h) : FrmAt r (fun h k => onArr es s h fun a b c => f a b c h k) h := by
  unfold onArr
  exact .onSl (hf _ _ _) fun id off len ver e => .both (c := fun _ => Nat.beq e es) (fun _ => rfl) fun _ => .onBk hk fun c s v g z x o _ => .both (c := fun _ => Nat.beq ver v) (fun _ => rfl) fun _ => hf _ _ _
theorem ret_onArr {α : Type} {h : H} {es : Nat} {s : V} {f : Nat → Nat → Arr → (α → Bool) → Bool} (hf : ∀ a b c, RetG (f a b c)) : RetG (fun k => onArr es s h fun a b c => f a b c k) := by
  unfold onArr
  exact .onSl (hf _ _ _) fun id off len ver e => .both (.onBk fun c s v g z x o => .both (hf _ _ _))
theorem shAt_ret {α : Type} {ao alen : Nat} {c : Arr} {m : Nat} {f : Nat → Nat → (α → Bool) → Bool} (hf : ∀ s d, RetG (f s d)) : RetG (fun k => shAt ao alen c m fun s d => f s d k) := by
  unfold shAt
  exact .both (.onW fun s => .onW fun d => .both (.both (.both (.both (hf _ _)))))
theorem shFin_ret {kd sz dp : Nat} {go : Bool} : RetG (fun k => shFin kd k sz dp go) := .both (.both (.bs (.bs (.k _) (.k _)) (.k _)))
theorem shLoop_ret {ao alen : Nat} {c : Arr} {i po : Nat} {pc : Arr} {kd : Nat} : ∀ n sz dp : Nat, RetG (fun k => shLoop ao alen c i po pc (shFin kd k) n sz dp)
  | 0, sz, dp => shFin_ret
  | n + 1, sz, dp => .onW fun v => .bs (shAt_ret fun s d => shLoop_ret n _ _) shFin_ret
theorem shRest_ret {ao al : Nat} {ac : Arr} {i kd po pl : Nat} {pc : Arr} : RetG (shRest ao al ac i kd po pl pc) := .both (.both (.both (shLoop_ret _ _ _)))
noncomputable def aS (ao : Nat) (c : Arr) (j : Nat) : Int := (wOf (aget (ao + j * 2) c) : Int) - bias
noncomputable def aD (ao : Nat) (c : Arr) (j : Nat) : Int := (wOf (aget (ao + j * 2 + 1) c) : Int) - bias
def gdAt (ao : Nat) (c : Arr) (j : Nat) : Prop := (∃ n, aget (ao + j * 2) c = .w n) ∧ ∃ n, aget (ao + j * 2 + 1) c = .w n
theorem shAt_true {ao alen : Nat} {c : Arr} {m : Nat} {k : Nat → Nat → Bool} (h : shAt ao alen c m k = true) : m < alen ∧ gdAt ao c m ∧ ∃ s d : Nat, k s d = true ∧ aS ao c m = s ∧ aD ao c m = d ∧ 1 ≤ s ∧ s ≤ 1000000000 ∧ d ≤ 1000000000 := by
  obtain ⟨h1, h2⟩ := both_true h
  obtain ⟨s, e1, h3⟩ := onW_true h2
  obtain ⟨d, e2, h4⟩ := onW_true h3
  obtain ⟨h5, h6⟩ := both_true h4
  obtain ⟨h7, h8⟩ := both_true h6
  obtain ⟨h9, h10⟩ := both_true h8
  obtain ⟨h11, h12⟩ := both_true h10
  have h5 := ble_true h5; have h7 := ble_true h7; have h9 := ble_true h9; have h11 := ble_true h11
  have e1 : aget (ao + m * 2) c = .w s := e1
  have e2 : aget (ao + m * 2 + 1) c = .w d := e2
  simp only [Nat.add_eq, Nat.succ_eq_add_one] at h5 h7 h9 h11
  refine ⟨by have := ble_true h1; omega, ⟨⟨_, e1⟩, ⟨_, e2⟩⟩, s - bias, d - bias, h12, ?_, ?_, by omega, by omega, by omega⟩
  · unfold aS; rw [e1]; show ((s : Nat) : Int) - (bias : Nat) = _; omega
  · unfold aD; rw [e2]; show ((d : Nat) : Int) - (bias : Nat) = _; omega
theorem fold_none {i : Int} {S D : Nat → Int} : ∀ vs : List Int, vs.foldl (shStep i S D) none = none
  | [] => rfl
  | v :: vs => by rw [List.foldl_cons]; exact fold_none vs
theorem shChk_ok {ao alen : Nat} {c : Arr} {i : Nat} : ∀ (vs : List Int) (n : Nat) (sz0 : Nat) (dp0 sz dp : Int), shChk ao alen c i n sz0 = true → vs.length < n → vs.foldl (shStep i (aS ao c) (aD ao c)) (some ((sz0 : Int), dp0)) = some (sz, dp) → 0 ≤ (i : Int) - sz →
    ((i : Int) - sz).toNat < alen ∧ 1 ≤ aS ao c ((i : Int) - sz).toNat ∧ aS ao c ((i : Int) - sz).toNat ≤ 1000000000 ∧ 0 ≤ aD ao c ((i : Int) - sz).toNat ∧ aD ao c ((i : Int) - sz).toNat ≤ 1000000000 ∧ gdAt ao c ((i : Int) - sz).toNat
  | _, 0, _, _, _, _, _, hl, _, _ => absurd hl (by omega)
  | [], n + 1, sz0, dp0, sz, dp, hc, _, hf, hi => by
    simp only [List.foldl_nil, Option.some.injEq, Prod.mk.injEq] at hf
    obtain ⟨rfl, rfl⟩ := hf
    have hc : bs (Nat.ble sz0 i) (shAt ao alen c (Nat.sub i sz0) fun s _ => shChk ao alen c i n (Nat.add sz0 s)) true = true := hc
    rw [show Nat.ble sz0 i = true from Nat.ble_eq_true_of_le (by omega), bs_true] at hc
    obtain ⟨h1, h2, s, d, _, h3, h4, h5, h6, h7⟩ := shAt_true hc
    have e : ((i : Int) - sz0).toNat = Nat.sub i sz0 := by show _ = i - sz0; omega
    rw [e, h3, h4]
    exact ⟨h1, by omega, by omega, by omega, by omega, h2⟩
  | v :: vs, n + 1, sz0, dp0, sz, dp, hc, hl, hf, hi => by
    rw [List.foldl_cons] at hf
    simp only [shStep] at hf
    split at hf
    · rename_i hv
      have hc : bs (Nat.ble sz0 i) (shAt ao alen c (Nat.sub i sz0) fun s _ => shChk ao alen c i n (Nat.add sz0 s)) true = true := hc
      rw [show Nat.ble sz0 i = true from Nat.ble_eq_true_of_le (by omega), bs_true] at hc
      obtain ⟨h1, h2, s, d, h8, h3, h4, h5, h6, h7⟩ := shAt_true hc
      have e : v.toNat = Nat.sub i sz0 := by show _ = i - sz0; omega
      rw [e, h3] at hf
      exact shChk_ok vs n (sz0 + s) _ sz dp h8 (by simpa using hl) (by rw [Int.natCast_add]; exact hf) hi
    · rw [fold_none] at hf; simp at hf
theorem shSt_prev {i : Int} {S D : Nat → Int} {f : Nat → Nat × Int} : ∀ (m k : Nat), k ≤ m → (∃ x, shSt i S D (uptoS f m) = some x) → ∃ x, shSt i S D (uptoS f k) = some x
  | 0, k, hk, h => by rw [Nat.le_zero.1 hk]; exact h
  | m + 1, k, hk, h => by
    by_cases e : k = m + 1
    · rw [e]; exact h
    · refine shSt_prev m k (by omega) ?_
      rw [uptoS_succ, shSt_snoc] at h
      cases hq : shSt i S D (uptoS f m) with
      | none => rw [hq] at h; obtain ⟨x, h⟩ := h; simp [shStep] at h
      | some x => exact ⟨x, rfl⟩
theorem shSt_step {i : Int} {S D : Nat → Int} {f : Nat → Nat × Int} {k : Nat} {sz dp : Int} (h : shSt i S D (uptoS f k) = some (sz, dp)) (hn : ¬ (0 ≤ (f k).2 ∧ (f k).2 = i - sz)) : shSt i S D (uptoS f (k + 1)) = none := by
  rw [uptoS_succ, shSt_snoc, h]
  simp only [shStep]
  rw [if_neg hn]
theorem shFin_true {kind : Nat} {k : V → Bool} {sz dp : Nat} {go : Bool} (h : shFin kind k sz dp go = true) : sz ≤ 1000000000000 ∧ dp ≤ 1000000000000 ∧ ((go = true ∧ ∃ d, d = (if bias + 6 ≤ kind then dp + 1 else dp) ∧ k (shRes sz d (decide (d ≤ 8))) = true) ∨ (go = false ∧ k (shRes sz dp false) = true)) := by
  obtain ⟨h1, h2⟩ := both_true h
  obtain ⟨h3, h4⟩ := both_true h2
  refine ⟨ble_true h1, ble_true h3, ?_⟩
  have hb : ∀ d : Nat, Nat.ble d 8 = decide (d ≤ 8) := fun d => by
    by_cases h : d ≤ 8
    · rw [Nat.ble_eq_true_of_le h]; simp [h]
    · cases hq : Nat.ble d 8 with
      | true => exact absurd (ble_true hq) h
      | false => simp [h]
  cases go with
  | true =>
    rw [bs_true] at h4
    refine .inl ⟨rfl, _, rfl, ?_⟩
    split
    · rename_i hq
      rw [show Nat.ble (Nat.add bias 6) kind = true from Nat.ble_eq_true_of_le hq, bs_true] at h4
      rw [← hb]; exact h4
    · rename_i hq
      have : Nat.ble (Nat.add bias 6) kind = false := by
        cases hz : Nat.ble (Nat.add bias 6) kind with
        | true => exact absurd (ble_true hz) hq
        | false => rfl
      rw [this, bs_false] at h4
      rw [← hb]; exact h4
  | false => exact .inr ⟨rfl, h4⟩
theorem shLoop_ok {ao alen : Nat} {c : Arr} {i po : Nat} {pc : Arr} {kd : Nat} {k : V → Bool} {len : Nat} {z : Nat → Int} (hz : ∀ j n, j < len → aget (po + j) pc = .w n → z j = (n : Int) - bias) {SZ DP : Int} {OK : Bool}
    (ho : ShOut i ((kd : Int) - bias) (aS ao c) (aD ao c) len z SZ DP OK) :
    ∀ (n sz dp : Nat), n ≤ len → shSt i (aS ao c) (aD ao c) (uptoS (backF len z) (len - n)) = some ((sz : Int), (dp : Int)) → shLoop ao alen c i po pc (shFin kd k) n sz dp = true →
      ∃ s d : Nat, SZ = s ∧ DP = d ∧ s ≤ 1000000000000 ∧ d ≤ 1000000000001 ∧ k (shRes s d OK) = true
  | 0, sz, dp, _, hst, hm => by
    rw [Nat.sub_zero] at hst
    obtain ⟨b1, b2, ⟨_, d, hd, h3⟩ | ⟨h2, _⟩⟩ := shFin_true hm
    · rcases ho with ⟨d', e1, e2, e3⟩ | ⟨_, q, hq, e1, e2⟩
      · rw [hst] at e1
        simp only [Option.some.injEq, Prod.mk.injEq] at e1
        obtain ⟨rfl, rfl⟩ := e1
        have hDP : DP = (d : Int) := by
          rw [e2, hd]
          by_cases h6 : bias + 6 ≤ kd
          · rw [if_pos h6, if_pos (by omega)]; omega
          · rw [if_neg h6, if_neg (by omega)]
        refine ⟨sz, d, rfl, hDP, b1, ?_, ?_⟩
        · rw [hd]; split <;> omega
        · rw [e3, hDP]
          have : decide ((d : Int) ≤ 8) = decide (d ≤ 8) := by simp only [decide_eq_decide]; omega
          rw [this]; exact h3
      · have := shSt_step (f := backF len z) e1 e2
        obtain ⟨x, hx⟩ := shSt_prev len (q + 1) (by omega) ⟨_, hst⟩
        rw [this] at hx; simp at hx
    · simp at h2
  | n + 1, sz, dp, hn, hst, hm => by
    have hm : onW (aget (Nat.add po n) pc) (fun v => bs (both (Nat.ble sz i) (Nat.beq v (Nat.add bias (Nat.sub i sz)))) (shAt ao alen c (Nat.sub i sz) fun s d => shLoop ao alen c i po pc (shFin kd k) n (Nat.add sz s) (bs (Nat.ble dp d) d dp)) (shFin kd k sz dp false)) = true := hm
    obtain ⟨v, ev, hm⟩ := onW_true hm
    have hzn : z n = (v : Int) - bias := hz n v (by omega) ev
    have hlen : len - n = (len - (n + 1)) + 1 := by omega
    have hbk : backF len z (len - (n + 1)) = (n, z n) := by unfold backF; rw [show len - 1 - (len - (n + 1)) = n from by omega]
    cases hb : both (Nat.ble sz i) (Nat.beq v (Nat.add bias (Nat.sub i sz))) with
    | true =>
      obtain ⟨g1, g2⟩ := both_true hb
      have g1 := ble_true g1; have g2 := beq_true g2
      rw [hb, bs_true] at hm
      obtain ⟨h1, h2, s, d, h8, h3, h4, h5, h6, h7⟩ := shAt_true hm
      have g2 : v = bias + (i - sz) := g2
      refine shLoop_ok hz ho n _ _ (by omega) ?_ h8
      rw [hlen, uptoS_succ, shSt_snoc, hst, hbk]
      simp only [shStep]
      have e : (z n).toNat = Nat.sub i sz := by rw [hzn]; show _ = i - sz; omega
      rw [if_pos ⟨by omega, by omega⟩, e, h3, h4]
      simp only [Option.some.injEq, Prod.mk.injEq]
      refine ⟨by simp, ?_⟩
      cases hq : Nat.ble dp d with
      | true => have := ble_true hq; rw [bs_true]; omega
      | false =>
        have : ¬ dp ≤ d := fun h => by rw [Nat.ble_eq_true_of_le h] at hq; simp at hq
        rw [bs_false]; omega
    | false =>
      rw [hb, bs_false] at hm
      have hne : ¬ (0 ≤ (backF len z (len - (n + 1))).2 ∧ (backF len z (len - (n + 1))).2 = (i : Int) - sz) := by
        rw [hbk]
        rintro ⟨q1, q2⟩
        dsimp only at q1 q2
        rw [hzn] at q1 q2
        have a1 : Nat.ble sz i = true := Nat.ble_eq_true_of_le (by omega)
        have a2 : v = Nat.add bias (Nat.sub i sz) := by show v = bias + (i - sz); omega
        rw [a1, ← a2] at hb
        simp [both] at hb
      have hnone := shSt_step hst hne
      obtain ⟨b1, b2, ⟨h2, _⟩ | ⟨_, h3⟩⟩ := shFin_true hm
      · simp at h2
      · rcases ho with ⟨d', e1, e2, e3⟩ | ⟨hok, q, hq, e1, e2⟩
        · obtain ⟨x, hx⟩ := shSt_prev len (len - (n + 1) + 1) (by omega) ⟨_, e1⟩
          rw [hnone] at hx; simp at hx
        · have h4 := shSt_step (f := backF len z) e1 e2
          have hq : q = len - (n + 1) := by
            rcases Nat.lt_trichotomy q (len - (n + 1)) with h | h | h
            · obtain ⟨x, hx⟩ := shSt_prev (len - (n + 1)) (q + 1) (by omega) ⟨_, hst⟩
              rw [h4] at hx; simp at hx
            · exact h
            · obtain ⟨x, hx⟩ := shSt_prev q (len - (n + 1) + 1) (by omega) ⟨_, e1⟩
              rw [hnone] at hx; simp at hx
          rw [hq, hst] at e1
          simp only [Option.some.injEq, Prod.mk.injEq] at e1
          exact ⟨sz, dp, e1.1.symm, e1.2.symm, b1, by omega, by rw [hok]; exact h3⟩
theorem Rel.belowW {φ : Phi} {h : H} {w w' : World} (R : Rel φ h w) (hB : Below w.heap.size w w') : Rel φ h w' ∧ Ext φ h w φ h w' := by
  have hk : ∀ (b : Blk) (id : Nat), BlkOk φ w id b → BlkOk φ w' id b := fun b id hb => by
    cases b with
    | nb => trivial
    | bk c size ver frz elem ex own =>
      obtain ⟨l, cs, fr, h1, h2, h3, h4⟩ := hb
      exact ⟨l, cs, fr, h1, h2, (hB.block _ (R.dom _ _ _ h1).2.1).trans h3, h4⟩
    | mp kv =>
      obtain ⟨l, es, clock, h1, h2, h3, h4⟩ := hb
      exact ⟨l, es, clock, h1, h2, (hB.block _ (R.dom _ _ _ h1).2.1).trans h3, h4⟩
    | pin p q r =>
      obtain ⟨l, el, fr, h1, h2, h3, h4⟩ := hb
      exact ⟨l, el, fr, h1, h2, (hB.block _ (R.dom _ _ _ h1).2.1).trans h3, h4⟩
    | it n r pos =>
      obtain ⟨l, s, h1, h2, h3, h4⟩ := hb
      exact ⟨l, s, h1, h2, (hB.block _ (R.dom _ _ _ h1).2.1).trans h3, h4⟩
  exact ⟨⟨R.next, fun id v l e => let ⟨a, b, c⟩ := R.dom id v l e; ⟨a, Nat.lt_of_lt_of_le b hB.size, c⟩, fun id hi => hk _ _ (R.blk id hi), R.apart⟩,
    ⟨φ.le_refl, hB.os, hB.tape, hB.output, hB.size, Nat.le_refl _, fun _ _ h => h, fun _ _ h => h, fun B hb _ => hB.block B hb, fun _ _ h => ⟨h, fun _ => rfl⟩⟩⟩
theorem shWs_ok {po : Nat} {pc : Arr} : ∀ n, shWs po pc n = true → ∀ j, j < n → ∃ m, aget (po + j) pc = .w m
  | 0, _, j, hj => absurd hj (by omega)
  | n + 1, h, j, hj => by
    have h : onW (aget (Nat.add po n) pc) (fun _ => shWs po pc n) = true := h
    obtain ⟨m, e, h⟩ := onW_true h
    by_cases q : j = n
    · rw [q]; exact ⟨m, e⟩
    · exact shWs_ok n h j (by omega)
theorem FrmAt.onCons {α : Type} {r : Nat} {h : H} {v : V} {f : V → V → H → (α → H → Bool) → Bool} (hf : ∀ a b, FrmAt r (f a b) h) : FrmAt r (fun h k => Bvm.onCons v fun a b => f a b h k) h := by
  cases v with
  | x t a b => cases t <;> first | exact .no | exact hf _ _
  | _ => exact .no
theorem FrmAt.onNil {α : Type} {r : Nat} {h : H} {v : V} {f : H → (α → H → Bool) → Bool} (hf : FrmAt r f h) : FrmAt r (fun h k => Bvm.onNil v (f h k)) h := by
  cases v with
  | x t a b => cases t <;> first | exact .no | exact hf
  | _ => exact .no
theorem RV.natW {φ : Phi} {n : Nat} (h : n ≤ 1000000000001) : RV φ (.w (Nat.add bias n)) (.int .i64 (n : Int)) := by
  have := RV.w (φ := φ) (n := bias + n) (by unfold bias; omega)
  have e : ((bias + n : Nat) : Int) - 9223372036854775808 = (n : Int) := by unfold bias; omega
  rw [e] at this
  exact this
theorem enters_call {f : Nat} {fn : Func} (hf : P.funcs[f]? = some fn) (hname : (fn.name == "runtime.NumGoroutine") = false) (hb : fn.body.isNone = false) (args : Array Value) (w : World) : (callFunc f args).run P w = .ok (.enter f args) w := by
  unfold callFunc
  rw [Sem.run_bind, run_program]
  simp only [Result.andThen_ok, hf]
  rw [if_neg (by rw [hname]; simp), if_neg (by rw [hb]; simp)]
  rfl
theorem EntOk.sh {f : Nat} (hent : ∀ (args : Array Value) (w : World), (callFunc f args).run P w = .ok (.enter f args) w) (hC : ShC P f) : EntOk P G f (fun _ => extSh) where
  ok := fun cf _ _ _ l h k hm φ w args hg hl R => by
    obtain ⟨a, r, h1, hm1⟩ := onCons_true hm
    rw [h1] at hl
    cases hl with
    | cons ha hr =>
    obtain ⟨b, r', h2, hm2⟩ := onCons_true hm1
    rw [h2] at hr
    cases hr with
    | @cons _ _ bv _ hb hr =>
    obtain ⟨x, r'', h3, hm3⟩ := onCons_true hm2
    rw [h3] at hr
    cases hr with
    | cons hx hr =>
    obtain ⟨_, _, h4, hm4⟩ := onNil_true hm3
    rw [h4] at hr
    cases hr
    obtain ⟨m, e1, hm5⟩ := onW_true hm4
    rw [e1] at hx
    obtain ⟨_, rfl⟩ := hx.inv_w
    obtain ⟨h5, hm6⟩ := both_true hm5
    obtain ⟨h6, hm7⟩ := both_true hm6
    have h5 := ble_true h5; have h6 := ble_true h6
    obtain ⟨i, hi⟩ : ∃ i, i = Nat.sub m bias := ⟨_, rfl⟩
    have e2 : (m : Int) - 9223372036854775808 = (i : Int) := by
      rw [hi]; show _ = ((m - bias : Nat) : Int)
      unfold bias at h5 ⊢; omega
    rw [e2]
    rw [← hi] at hm7
    have hi9 : i ≤ 1000000000 := by rw [hi]; show m - bias ≤ _; simp only [Nat.add_eq] at h6; omega
    obtain ⟨lo, ll, lc, hm8, hL⟩ := onArr_true hm7 ha R
    obtain ⟨h7, hm9⟩ := both_true hm8
    have h7 := ble_true h7
    have h7 : i < ll := h7
    obtain ⟨ao, al, ac, hm10, hA⟩ := onArr_true hm9 hb R
    obtain ⟨kd, e3, hm11⟩ := onW_true hm10
    rcases hL with ⟨_, hL0⟩ | ⟨lB, lO, lbase, lcap, rfl, hlB, hlo, hlc⟩
    · omega
    obtain rfl := hlo (by omega)
    obtain ⟨kv, hk1, hk2⟩ := hlc (lo + i * 5) (by omega)
    have e3 : aget (lo + i * 5) lc = .w kd := e3
    rw [e3] at hk2
    obtain ⟨_, rfl⟩ := hk2.inv_w
    obtain ⟨pv, hp1, hp2⟩ := hlc (lo + i * 5 + 4) (by omega)
    obtain ⟨po, pl, pc, hm12, hP⟩ := onArr_true hm11 (v := pv) (by exact hp2) R
    obtain ⟨h8, hm13⟩ := both_true hm12
    obtain ⟨h10, hm13⟩ := both_true hm13
    obtain ⟨h9, hm14⟩ := both_true hm13
    have h8 := ble_true h8
    have hkey : ∀ (pB slen scap : Nat) (sa : Option Addr) (z : Nat → Int), pv = .slice sa slen scap → pB < w.heap.size → IntsAt w pB (.slice sa slen scap) pl z → (∀ j n, j < pl → aget (po + j) pc = .w n → z j = (n : Int) - bias) →
        OpRun P (callFunc f ⟨[.slice (some ⟨lB, lbase + lo, none⟩) ll lcap, bv, .int .i64 i]⟩) w (FPost k φ h w) := fun pB slen scap sa z hpv hpB hI hz => by
      have go : ∀ (aB AO : Nat) (aA : Option Addr) (acap : Nat), aB < w.heap.size → (0 < al → aA = some ⟨aB, AO, none⟩) →
          (∀ j, j < al → gdAt ao ac j → w.cell? ⟨aB, AO + j * 2, none⟩ = some (.int .i64 (aS ao ac j)) ∧ w.cell? ⟨aB, AO + j * 2 + 1, none⟩ = some (.int .i64 (aD ao ac j))) →
          OpRun P (callFunc f ⟨[.slice (some ⟨lB, lbase + lo, none⟩) ll lcap, .slice aA al acap, .int .i64 i]⟩) w (FPost k φ h w) := fun aB AO aA acap haB haA hS => by
        refine .inr (.inr ⟨f, _, hent _ w, ?_⟩)
        refine (hC (gdAt ao ac) lB (lbase + lo) ll lcap aB AO aA al acap haA i ((kd : Int) - bias) sa slen scap pB pl z (aS ao ac) (aD ao ac) w hlB haB hpB h7 hi9 ?_ ?_ (by omega) hI hS ?_).mono ?_
        · rw [Nat.add_assoc]; exact hk1
        · rw [← hpv]
          have := hp1
          rw [show lbase + (lo + i * 5 + 4) = lbase + lo + i * 5 + 4 from by omega] at this
          exact this
        · intro pre hpre sz dp hst hge
          exact shChk_ok (pre.map Prod.snd) pl 1 0 sz dp h9 (by simpa using hpre) hst hge
        · rintro e W' ⟨sz, dp, ok, rfl, hout, hBl⟩
          obtain ⟨s, d, rfl, rfl, b1, b2, hk⟩ := shLoop_ok hz hout pl 1 0 (Nat.le_refl _) (by rw [Nat.sub_self]; rfl) hm14
          obtain ⟨R', X⟩ := R.belowW hBl
          refine ⟨_, rfl, _, h, φ, hk, ?_, R', X⟩
          refine .tup (.cons (.agg (.cons (.natW (by omega)) (.cons (.natW (by omega)) .nil)) ?_) (.cons .t .nil))
          intro v hv
          simp only [List.mem_cons, List.not_mem_nil, or_false] at hv
          rcases hv with rfl | rfl <;> rfl
      rcases hA with ⟨rfl, rfl⟩ | ⟨aB, aO, abase, acap, rfl, haB, hao, hac⟩
      · exact go lB 0 none 0 hlB (fun h => absurd h (by omega)) (fun j hj => absurd hj (by omega))
      · refine go aB (abase + ao) (some aO) acap haB (fun h => by rw [hao h]) fun j hj ⟨⟨n1, g1⟩, ⟨n2, g2⟩⟩ => ?_
        obtain ⟨v1, c1, r1⟩ := hac (ao + j * 2) (by omega)
        obtain ⟨v2, c2, r2⟩ := hac (ao + j * 2 + 1) (by omega)
        rw [g1] at r1; rw [g2] at r2
        obtain ⟨_, rfl⟩ := r1.inv_w
        obtain ⟨_, rfl⟩ := r2.inv_w
        unfold aS aD
        rw [g1, g2]
        refine ⟨?_, ?_⟩
        · rw [show abase + ao + j * 2 = abase + (ao + j * 2) from by omega, c1]; rfl
        · rw [show abase + ao + j * 2 + 1 = abase + (ao + j * 2 + 1) from by omega, c2]; rfl
    rcases hP with ⟨e4, h0⟩ | ⟨pB, pO, pbase, pcap, e4, hpB, hpo, hpc⟩
    · subst h0
      exact hkey lB 0 0 none (fun _ => 0) e4 hlB (.inl ⟨rfl, rfl⟩) (fun j n hj => absurd hj (by omega))
    · refine hkey pB pl pcap _ (fun j => (wOf (aget (po + j) pc) : Int) - bias) e4 hpB ?_ (fun j n hj e => by rw [e]; rfl)
      refine .inr ⟨pO, pbase + po, pcap, rfl, hpo, fun j hj => ?_⟩
      obtain ⟨v1, c1, r1⟩ := hpc (po + j) (by omega)
      obtain ⟨m, g1⟩ := shWs_ok pl h10 j hj
      rw [g1] at r1
      obtain ⟨_, rfl⟩ := r1.inv_w
      show w.cell? _ = some (.int .i64 ((wOf (aget (po + j) pc) : Int) - bias))
      rw [g1, Nat.add_assoc, c1]
      rfl
  ret := fun cf _ l h => .onCons fun a r => .onCons fun b r => .onCons fun x r => .onNil (.onW fun m => .both (.both (ret_onArr fun lo ll lc => .both (ret_onArr fun ao al ac => .onW fun kd => ret_onArr fun po pl pc => .bind shRest_ret fun v => .k _))))
  frm := fun cf _ r l h hk => .onCons fun a q => .onCons fun b q => .onCons fun x q => .onNil (.onW fun m => .both (c := fun _ => Nat.ble bias m) (fun _ => rfl) fun _ => .both (c := fun _ => Nat.ble m (Nat.add bias 1000000000)) (fun _ => rfl) fun _ =>
    frm_onArr hk fun lo ll lc => .both (c := fun _ => Nat.ble (Nat.succ (Nat.sub m bias)) ll) (fun _ => rfl) fun _ => frm_onArr hk fun ao al ac => .onW fun kd => frm_onArr hk fun po pl pc => .pure shRest_ret hk)
end Go.Bvm
set_option linter.unusedVariables false
namespace Go.Bvm
open Go
def Plain (o : Oper) : Prop := (∀ c, o.op ≠ .defer c) ∧ ∀ (P : Program) (ρ : Operand → Value) (w : World), (∃ v w', (execOp ρ o).run P w = .ok (.value v) w') ∨ (∃ w', (execOp ρ o).run P w = .ok .skip w') ∨ ∃ e w', (execOp ρ o).run P w = .halt e w'
theorem res_v (P : Program) (s : Sem Value) (w : World) : (∃ v w', (s.bind fun v => pure (Next.value v)).run P w = .ok (.value v) w') ∨ (∃ w', (s.bind fun v => pure (Next.value v)).run P w = .ok .skip w') ∨ ∃ e w', (s.bind fun v => pure (Next.value v)).run P w = .halt e w' := by
  rw [Sem.run_bind']
  cases s.run P w with
  | ok v w' => exact .inl ⟨v, w', rfl⟩
  | halt e w' => exact .inr (.inr ⟨e, w', rfl⟩)
theorem res_u (P : Program) (s : Sem Unit) (w : World) : (∃ v w', (s.bind fun _ => pure Next.skip).run P w = .ok (.value v) w') ∨ (∃ w', (s.bind fun _ => pure Next.skip).run P w = .ok .skip w') ∨ ∃ e w', (s.bind fun _ => pure Next.skip).run P w = .halt e w' := by
  rw [Sem.run_bind']
  cases s.run P w with
  | ok v w' => exact .inr (.inl ⟨w', rfl⟩)
  | halt e w' => exact .inr (.inr ⟨e, w', rfl⟩)
def plainB (o : Oper) : Bool := match o.op with
  | .load .. | .store .. | .fieldAddr .. | .indexAddr .. | .move _ | .binOp .. => true
  | .call ⟨.builtin .max, _, _⟩ => true
  | _ => false
theorem plain_of {o : Oper} (h : plainB o = true) : Plain o := by
  obtain ⟨dst, op, ty, pos, aft, grd⟩ := o
  unfold plainB at h
  split at h
  all_goals first
    | (rename_i ho; simp only at ho; subst ho; exact ⟨fun c e => by simp at e, fun P ρ w => res_v P _ w⟩)
    | (rename_i ho; simp only at ho; subst ho; exact ⟨fun c e => by simp at e, fun P ρ w => res_u P _ w⟩)
    | (rename_i ho; simp only at ho; subst ho; exact ⟨fun c e => by simp at e, fun P ρ w => .inl ⟨_, _, rfl⟩⟩)
    | (simp at h; done)
    | skip
theorem plain_all {l : List Oper} (h : l.all plainB = true) (i : Nat) (o : Oper) (ho : l.toArray[i]? = some o) : Plain o :=
  plain_of (List.all_eq_true.1 h o (by have := Array.mem_of_getElem? ho; simpa using this))
def openIn (l : Nat) : Fence := Fence.wide.inRound l
theorem wpOpIn_of_plain {F : Fence} (hF : ∀ f, F.fn f) {n : Nat} {P : Program} {ops : Array Oper} (hp : ∀ (i : Nat) (o : Oper), ops[i]? = some o → Plain o) {Q : Exit → Act → World → Prop} {Q' : Exit → Act → World → Prop} (hL : ¬ LetsOut Q') (hQ' : ∀ c a w, ¬ Q' (.panic c) a w) {i : Nat} {K : Act → World → Prop} {a : Act} {w : World}
    (h : wpOp P ops Q' i K a w) : wpOpIn F n P ops Q i K a w := by
  unfold wpOp at h
  unfold wpOpIn
  cases ho : ops[i]? with
  | none => rw [ho] at h; exact h
  | some o =>
    rw [ho] at h
    dsimp only at h ⊢
    split <;> rename_i hw
    · rw [if_pos hw] at h
      rcases h with h | ⟨_, h⟩
      · refine ⟨fun f _ => hF f, ?_⟩
        rw [Oper.semAt_eq _ _ _ (hp i o ho).1]
        unfold Oper.wp at h
        rcases (hp i o ho).2 P a.eval w with ⟨v, w', e⟩ | ⟨w', e⟩ | ⟨e0, w', e⟩
        · rw [e] at h ⊢; exact h
        · rw [e] at h ⊢; exact h
        · rw [e] at h ⊢
          cases e0 <;> first | exact absurd h (hQ' _ _ _) | exact h
      · exact absurd h hL
    · rw [if_neg hw] at h
      exact ⟨fun f _ => hF f, h⟩
theorem wpAnyIn_of_plain {F : Fence} (hF : ∀ f, F.fn f) {n : Nat} {P : Program} {md : Region.Mode} {ops : Array Oper} (hp : ∀ (i : Nat) (o : Oper), ops[i]? = some o → Plain o) {Q Q' : Exit → Act → World → Prop} (hL : ¬ LetsOut Q') (hQ' : ∀ c a w, ¬ Q' (.panic c) a w) (hN : ∀ a w, Q' .normal a w → Q .normal a w) :
    ∀ (fuel : Nat) (listed : Array Bool) (a : Act) (w : World), wpAny P md ops Q' fuel listed a w → wpAnyIn F n P md ops Q fuel listed a w
  | 0, _, _, _, h => ⟨h.1, hN _ _ h.2⟩
  | fuel + 1, listed, a, w, h => ⟨fun hr => hN _ _ (h.1 hr), fun i hi => wpOpIn_of_plain hF hp hL hQ' (wpOp_mono (fun a w h => wpAnyIn_of_plain hF hp hL hQ' hN fuel _ a w h) (h.2 i hi))⟩
def only (K : Act → World → Prop) : Exit → Act → World → Prop
  | .normal, a, w => K a w
  | _, _, _ => False
theorem only_out (K : Act → World → Prop) : ¬ LetsOut (only K) := by
  intro h
  unfold LetsOut at h
  first | exact h | (obtain ⟨a, w, h⟩ := h; exact h) | exact h default default
theorem wpAny_still_tail {P : Program} {Q : Exit → Act → World → Prop} {a : Act} {w : World} {l : List Oper} (n : Nat) (hB : Region.lexTailB .any l.toArray n = true)
    (h : wpStill P l.toArray { w with drawn := w.drawn + 1 } (fun a' => wpList P l.toArray Q (l.drop n) a' { w with drawn := w.drawn + 1 }) (l.take n) a) : wpAny P .any l.toArray Q l.toArray.size (Array.replicate l.toArray.size false) a { w with drawn := w.drawn + 1 } := by
  simp only [Region.lexTailB, Bool.and_eq_true, decide_eq_true_eq] at hB
  obtain ⟨⟨⟨⟨hsel, hn⟩, hs⟩, hc⟩, hlex⟩ := hB
  have hn' : n < l.length := by simpa using hn
  have htl : (l.take n).length = n := by simp; omega
  have hdl : (l.drop n).length = l.toArray.size - n := by simp
  have inv0 : HeadInv .any l.toArray n (Array.replicate l.toArray.size false) :=
    ⟨by simp, fun j oj _ hl => (by rw [getD_replicate_false] at hl; cases hl), fun t _ ht => getD_in (by simpa using ht) (getD_replicate_false _ _)⟩
  have H := wpAnyL_lex (md := .any) (g := l.toArray.size - n) hsel hs hc hn (l.take n) 0 _ a (fun j hj => by
    have hj' : j < n := by rw [htl] at hj; exact hj
    simp [hj']) (by simpa using htl) inv0 (by rw [htl]; exact hlex) h
  have := wpAny_of_head (Q' := Q) (g := l.toArray.size - n) (fun listed a' hL => by
    have := wpAny_of_seq (md := .any) (Q' := Q) (l.drop n) n listed a' { w with drawn := w.drawn + 1 } (fun j => by simp [List.getElem?_drop]) (by rw [hdl]; exact hL.1) hL.2
    rwa [hdl] at this) _ _ _ H
  rw [htl, show n + (l.toArray.size - n) = l.toArray.size by omega] at this
  exact this
theorem wpIn_region_still_tail {F : Fence} (hF : ∀ f, F.fn f) {m : Nat} {P : Program} {id : Nat} {Q : Exit → Act → World → Prop} {a : Act} {w : World} {l : List Oper} (n : Nat) (hm : P.follows .mixedOrders = true) (hp : ∀ (i : Nat) (o : Oper), l.toArray[i]? = some o → Plain o) (hB : Region.lexTailB .any l.toArray n = true)
    (h : wpStill P l.toArray w.drew (fun a' => wpList P l.toArray (only (Q .normal)) (l.drop n) a' w.drew) (l.take n) a) : (Code.region id l.toArray true).wpIn F m P Q a w :=
  wpIn_region_any hm (wpAnyIn_of_plain (Q := Q) (Q' := only (Q .normal)) hF hp (only_out _) (fun _ _ _ h => h) (fun _ _ h => h) _ _ _ _ (wpAny_still_tail n hB h))
end Go.Bvm
