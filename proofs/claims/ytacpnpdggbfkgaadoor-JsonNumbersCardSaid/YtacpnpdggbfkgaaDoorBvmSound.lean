/- The abstract machine: code stands for the model's code. Conditions: none. -/
import Derived.Test.YtacpnpdggbfkgaaDoorBvmDraw
set_option linter.unusedVariables false
namespace Go.Bvm
variable {P : Program} {G : Nat → Bool} {N : Fr}

theorem goR_ok {cf : CallF} (hcf : CallS P G cf) {ops : Array Oper} {i : Nat} {ρ : TL} {e : L8} {h : H} {k : KV} (hm : goR P G cf N ops i ρ e h k = true) {φ : Phi} {w : World} {a : Act} (hg : GlobOk P G φ) (r : RE φ N ρ e a) (R : Rel φ h w) (rest : List Nat) (Q : Exit → Act → World → Prop)
    (hnext : ∀ c w', FPost k φ h w c w' → wpOps P ops Q rest (a.put (dstR ops i) c) w') : wpOps P ops Q (i :: rest) a w := by
  unfold goR at hm
  simp only [wpOps]
  cases ho : ops[i]? with
  | none => rw [ho] at hm; simp at hm
  | some o =>
    rw [ho] at hm
    have hdst : dstR ops i = o.dst := by unfold dstR; rw [ho]
    rw [hdst] at hnext
    simp only at hm ⊢
    cases hgd : o.guard with
    | none =>
      rw [hgd] at hm
      rw [if_pos (by simp [Region.wanted, hgd])]
      exact .inl ((vop_ok hcf o hm hg (eval_func a) (opr_ok hg r) R).wp hnext)
    | some jb =>
      obtain ⟨j, b⟩ := jb
      rw [hgd] at hm
      simp only at hm
      cases hq : ops[j]? with
      | none => rw [hq] at hm; simp at hm
      | some q =>
        rw [hq] at hm
        simp only at hm
        cases hqd : q.dst with
        | none => rw [hqd] at hm; simp at hm
        | some g =>
          rw [hqd] at hm
          simp only at hm
          by_cases hgN : g < N.n
          case neg => rw [if_neg hgN] at hm; simp at hm
          rw [if_pos hgN] at hm
          obtain ⟨v, hv, rv, _⟩ := r.at_ g hgN
          have hy := yielded_of (ops := ops) hq hqd hv
          have yes : v = .bool b → vop P cf (opr P G N ρ e) o.op h k = true → (if Region.wanted o (yielded ops a.tmps) = true then o.wp P a w (wpOps P ops Q rest) Q ∨ o.asks P a w ∧ LetsOut Q else wpOps P ops Q rest (a.put o.dst undef) w) := fun hvb hk => by
            rw [if_pos (by unfold Region.wanted; rw [hgd]; show (yielded ops a.tmps j == some b) = true; rw [hy, hvb]; simp [boolOf])]
            exact .inl ((vop_ok hcf o hk hg (eval_func a) (opr_ok hg r) R).wp hnext)
          have no : (∀ t, v = .bool t → t = !b) → k V.u h = true → (if Region.wanted o (yielded ops a.tmps) = true then o.wp P a w (wpOps P ops Q rest) Q ∨ o.asks P a w ∧ LetsOut Q else wpOps P ops Q rest (a.put o.dst undef) w) := fun hne hk => by
            have : Region.wanted o (yielded ops a.tmps) = false := by
              unfold Region.wanted
              rw [hgd]
              show (yielded ops a.tmps j == some b) = false
              rw [hy]
              cases v with
              | bool z =>
                have := hne z rfl
                subst this
                cases b <;> rfl
              | _ => rfl
            rw [if_neg (by rw [this]; simp)]
            exact hnext undef w ⟨V.u, h, φ, hk, .undef, R, .refl _ _ _⟩
          cases b with
          | true =>
            rw [if_pos rfl] at hm
            rcases guardT_true hm with ⟨e1, hk⟩ | ⟨e1 | ⟨_, _, e1⟩, hk⟩
            · rw [e1] at rv; exact yes rv.inv_t hk
            · rw [e1] at rv; exact no (fun t ht => by rw [rv.inv_t] at ht; cases ht; rfl) hk
            · rw [e1] at rv; cases rv; exact no (fun t ht => by simp at ht) hk
          | false =>
            rw [if_neg (by simp)] at hm
            rcases guardF_true hm with ⟨e1, hk⟩ | ⟨e1 | ⟨_, _, e1⟩, hk⟩
            · rw [e1] at rv; exact yes rv.inv_t hk
            · rw [e1] at rv; exact no (fun t ht => by rw [rv.inv_t] at ht; cases ht; rfl) hk
            · rw [e1] at rv; cases rv; exact no (fun t ht => by simp at ht) hk

theorem runR_ok {cf : CallF} (hcf : CallS P G cf) {ops : Array Oper} (Q : Exit → Act → World → Prop) : ∀ (l : List Nat) {ρ : TL} {e : L8} {h : H} {K : KT}, runR P G cf N ops l ρ e h K = true → ∀ {φ : Phi} {w : World} {a : Act}, GlobOk P G φ → RE φ N ρ e a → Rel φ h w →
    (∀ ρ' e' h' φ' a' w', K ρ' e' h' = true → RE φ' N ρ' e' a' → Rel φ' h' w' → Ext φ h w φ' h' w' → a'.defers = a.defers → Q .normal a' w') → wpOps P ops Q l a w
  | [], ρ, e, h, K, hm, φ, w, a, hg, r, R, hQ => hQ ρ e h φ a w hm r R (.refl _ _ _) rfl
  | i :: rest, ρ, e, h, K, hm, φ, w, a, hg, r, R, hQ => goR_ok hcf hm hg r R rest Q fun c w' ⟨v, h', φ', hk, rv, R', X⟩ => by
      obtain ⟨ρ', e', hk', r'⟩ := (r.mono X.le).put hk rv
      refine runR_ok hcf Q rest hk' (hg.mono X.le) r' R' fun ρ2 e2 h2 φ2 a2 w2 hk2 r2 R2 X2 hd2 => hQ ρ2 e2 h2 φ2 a2 w2 hk2 r2 R2 (X.trans X2) (hd2.trans ?_)
      cases dstR ops i <;> rfl

/-! code -/
def xr : X → Exit → Prop
  | .n, .normal => True
  | .x i, .exit j => i = j
  | .r, .ret => True
  | _, _ => False

def PostK (N : Fr) (K : KX) (φ : Phi) (h : H) (w : World) (d : List Deferred) : Exit → Act → World → Prop := fun x a' w' =>
  ∃ y e' h' φ', xr y x ∧ K y e' h' = true ∧ RE φ' N .n e' a' ∧ Rel φ' h' w' ∧ Ext φ h w φ' h' w' ∧ a'.defers = d

def CodeS (P : Program) (G : Nat → Bool) (N : Fr) (ρ : TL) (c : Code) (m : M) : Prop := ∀ e h K, m e h K = true → ∀ φ w a, GlobOk P G φ → RE φ N ρ e a → Rel φ h w → c.wp P (PostK N K φ h w a.defers) a w

theorem noM_ok {c : Code} {ρ : TL} : CodeS P G N ρ c (fun _ _ _ => false) := fun e h K hm => by simp at hm

theorem seqM_ok {x y : Code} {m n : M} {ρ : TL} (hx : CodeS P G N ρ x m) (hy : CodeS P G N .n y n) : CodeS P G N ρ (.seq x y) (seqM m n) := by
  intro e h K hm φ w a hg r R
  refine wp_seq (wp_mono (hx e h _ hm φ w a hg r R) ?_)
  rintro ex a' w' ⟨z, e', h', φ', hz, hK, r', R', X, hd⟩
  cases z with
  | n =>
    cases ex <;> simp [xr] at hz
    refine wp_mono (hy e' h' K hK φ' w' a' (hg.mono X.le) r' R') ?_
    rintro ex2 a2 w2 ⟨z2, e2, h2, φ2, hz2, hK2, r2, R2, X2, hd2⟩
    exact ⟨z2, e2, h2, φ2, hz2, hK2, r2, R2, X.trans X2, hd2.trans hd⟩
  | x i =>
    cases ex <;> simp [xr] at hz
    subst hz
    exact ⟨.x i, e', h', φ', rfl, hK, r', R', X, hd⟩
  | r =>
    cases ex <;> simp [xr] at hz
    exact ⟨.r, e', h', φ', trivial, hK, r', R', X, hd⟩

theorem condV_ok {c : Operand} {q : V} {x y : Code} {m n : M} {ρ : TL} {e : L8} {h : H} {K : KX} (hm : condV q (m e h K) (n e h K) = true) {φ : Phi} {w : World} {a : Act} (hc : opr P G N ρ e c = some q) (hg : GlobOk P G φ) (r : RE φ N ρ e a) (R : Rel φ h w) (hx : CodeS P G N ρ x m) (hy : CodeS P G N ρ y n) : (Code.cond c x y).wp P (PostK N K φ h w a.defers) a w := by
  have rc := opr_ok hg r _ _ hc
  cases q <;> first | exact Bool.noConfusion (show false = true from hm) | skip
  rename_i t
  have rc := rc.inv_t
  cases t with
  | true => exact wp_cond_true rc (hx e h K hm φ w a hg r R)
  | false => exact wp_cond_false rc (hy e h K hm φ w a hg r R)

theorem blockM_ok {i : Nat} {x : Code} {m : M} {ρ : TL} (hx : CodeS P G N ρ x m) : CodeS P G N ρ (.block i x) (blockM i m) := by
  intro e h K hm φ w a hg r R
  refine wp_block (wp_mono (hx e h _ hm φ w a hg r R) ?_)
  rintro ex a' w' ⟨z, e', h', φ', hz, hK, r', R', X, hd⟩
  cases z with
  | n => cases ex <;> simp [xr] at hz; exact ⟨.n, e', h', φ', trivial, hK, r', R', X, hd⟩
  | r => cases ex <;> simp [xr] at hz; exact ⟨.r, e', h', φ', trivial, hK, r', R', X, hd⟩
  | x j =>
    cases ex <;> simp [xr] at hz
    subst hz
    have hK : K (bs (Nat.beq j i) .n (.x j)) e' h' = true := hK
    simp only [Exit.inBlock]
    by_cases q : j = i
    · subst q
      rw [if_pos rfl]
      rw [Nat.beq_refl] at hK
      exact ⟨.n, e', h', φ', trivial, hK, r', R', X, hd⟩
    · rw [if_neg q]
      have : Nat.beq j i = false := by rw [← Bool.not_eq_true]; intro z; exact q (Nat.eq_of_beq_eq_true z)
      rw [this] at hK
      exact ⟨.x j, e', h', φ', rfl, hK, r', R', X, hd⟩

theorem loopM_ok {lf : Nat} {x : Code} {m : M} {ρ : TL} (hx : CodeS P G N .n x m) : CodeS P G N ρ (.loop x) (loopM lf m) := by
  intro e h K hm φ w a hg r R b k cs
  have key : ∀ n e h, loopM n m e h K = true → ∀ φ w a, GlobOk P G φ → RE φ N .n e a → Rel φ h w → ∃ ex a' w', PostK N K φ h w a.defers ex a' w' ∧ Arrives P (lone (b.at a (.code x :: .inLoop x :: k)) cs w) b k cs ex a' w' := by
    intro n
    induction n with
    | zero => intro e h hm; exact Bool.noConfusion (show false = true from hm)
    | succ n ih =>
      intro e h hm φ w a hg r R
      obtain ⟨ex, a1, w1, ⟨z, e', h', φ', hz, hK, r', R', X, hd⟩, harr⟩ := hx e h _ hm φ w a hg r R b (.inLoop x :: k) cs
      cases z with
      | n =>
        cases ex <;> simp [xr] at hz
        obtain ⟨ex2, a2, w2, ⟨z2, e2, h2, φ2, hz2, hK2, r2, R2, X2, hd2⟩, harr2⟩ := ih e' h' hK φ' w1 a1 (hg.mono X.le) r' R'
        exact ⟨ex2, a2, w2, ⟨z2, e2, h2, φ2, hz2, hK2, r2, R2, X.trans X2, hd2.trans hd⟩, .of_steps (Steps.trans harr (.one step_inLoop)) harr2⟩
      | x i =>
        cases ex <;> simp [xr] at hz
        subst hz
        exact ⟨.exit i, a1, w1, ⟨.x i, e', h', φ', rfl, hK, r', R', X, hd⟩, .pass (x := .inLoop x) rfl (fun _ _ => .inl (by simp)) harr⟩
      | r =>
        cases ex <;> simp [xr] at hz
        exact ⟨.ret, a1, w1, ⟨.r, e', h', φ', trivial, hK, r', R', X, hd⟩, .pass (x := .inLoop x) rfl (fun _ _ => .inl (by simp)) harr⟩
  obtain ⟨ex, a', w', hp, harr⟩ := key lf e h hm φ w a hg r.drop R
  exact ⟨ex, a', w', hp, .of_steps (.one step_loop) harr⟩

/-- a region, and what comes behind it -/
theorem regR_ok (hmix : P.follows .mixedOrders = true) {cf : CallF} (hcf : CallS P G cf) (hr : CallRet cf) (hfr : ∀ r, CallFrm r cf) {c : Code} (hchk : chkC P N c = true) {f : TL → L8 → H → KT → Bool} (hf : regR P G cf N c = some f) {ρ : TL} {e : L8} {h : H} {K : KT} (hm : f ρ e h K = true) {φ : Phi} {w : World} {a : Act} (hg : GlobOk P G φ) (r : RE φ N ρ e a) (R : Rel φ h w) (Q : Exit → Act → World → Prop)
    (hQ : ∀ ρ' e' h' φ' a' w', K ρ' e' h' = true → RE φ' N ρ' e' a' → Rel φ' h' w' → Ext φ h w φ' h' w' → a'.defers = a.defers → Q .normal a' w') : c.wp P Q a w := by
  cases c <;> try (simp [regR] at hf; done)
  rename_i i ops d
  cases d
  · simp only [regR, Option.some.injEq] at hf
    subst hf
    exact wp_region (runR_ok hcf Q _ hm hg r R hQ)
  · simp only [regR] at hf
    split at hf
    · rename_i n l ho
      split at hf
      · rename_i hok
        simp only [Option.some.injEq] at hf
        subst hf
        have hchk : chkR P ops l = true := by
          unfold chkC at hchk
          rw [ho] at hchk; exact hchk
        exact draw_ok hmix hcf hr hfr hchk hok hm hg r R Q hQ
      · simp at hf
    · simp at hf

theorem exec_ok (hmix : P.follows .mixedOrders = true) {cf : CallF} (hcf : CallS P G cf) (hr : CallRet cf) (hfr : ∀ r, CallFrm r cf) (lf : Nat) : ∀ (c : Code) (ρ : TL), chkC P N c = true → CodeS P G N ρ c (exec P G cf lf N c ρ)
  | .skip, ρ, hc => fun e h K hm φ w a hg r R => wp_skip ⟨.n, e, h, φ, trivial, hm, r.drop, R, .refl _ _ _, rfl⟩
  | .region i ops d, ρ, hc => by
    rw [exec_region]
    split
    · rename_i f hf
      exact fun e h K hm φ w a hg r R => regR_ok hmix hcf hr hfr hc hf hm hg r R _ fun ρ' e' h' φ' a' w' hk r' R' X hd => ⟨.n, e', h', φ', trivial, hk, r'.drop, R', X, hd⟩
    · exact noM_ok
  | .seq a b, ρ, hc => by
    have hc := Bool.and_eq_true_iff.1 (show (chkC P N a && chkC P N b) = true from hc)
    rw [exec_seq]
    split
    · rename_i f hf
      intro e h K hm φ w ac hg r R
      refine wp_seq (regR_ok hmix hcf hr hfr hc.1 hf hm hg r R _ ?_)
      intro ρ' e' h' φ' a' w' hk r' R' X hd
      refine wp_mono (exec_ok hmix hcf hr hfr lf b ρ' hc.2 e' h' K hk φ' w' a' (hg.mono X.le) r' R') ?_
      rintro ex2 a2 w2 ⟨z2, e2, h2, φ2, hz2, hK2, r2, R2, X2, hd2⟩
      exact ⟨z2, e2, h2, φ2, hz2, hK2, r2, R2, X.trans X2, hd2.trans hd⟩
    · exact seqM_ok (exec_ok hmix hcf hr hfr lf a ρ hc.1) (exec_ok hmix hcf hr hfr lf b .n hc.2)
  | .cond c a b, ρ, hc => by
    have hc := Bool.and_eq_true_iff.1 (show (chkC P N a && chkC P N b) = true from hc)
    rw [exec_cond]
    intro e h K hm φ w ac hg r R
    dsimp only at hm
    split at hm
    · rename_i hc1; exact condV_ok hm hc1 hg r R (exec_ok hmix hcf hr hfr lf a ρ hc.1) (exec_ok hmix hcf hr hfr lf b ρ hc.2)
    · simp at hm
  | .block i a, ρ, hc => blockM_ok (exec_ok hmix hcf hr hfr lf a ρ hc)
  | .loop a, ρ, hc => loopM_ok (exec_ok hmix hcf hr hfr lf a .n hc)
  | .exit i, ρ, hc => fun e h K hm φ w a hg r R => wp_exit ⟨.x i, e, h, φ, rfl, hm, r.drop, R, .refl _ _ _, rfl⟩
  | .ret, ρ, hc => fun e h K hm φ w a hg r R => wp_ret ⟨.r, e, h, φ, trivial, hm, r.drop, R, .refl _ _ _, rfl⟩
  | .rangeFunc .., ρ, hc => noM_ok
  | .scope _, ρ, hc => noM_ok
  | .label _, ρ, hc => noM_ok
  | .goto _, ρ, hc => noM_ok
  | .refuse _, ρ, hc => noM_ok

end Go.Bvm
