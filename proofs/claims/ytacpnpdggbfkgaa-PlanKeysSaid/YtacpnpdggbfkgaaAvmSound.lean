/- The abstract machine: code stands for the model's code. Conditions: none. -/
import Derived.Test.YtacpnpdggbfkgaaAvmVop
set_option linter.unusedVariables false
namespace Go.Avm
variable {P : Program} {G : Nat → Bool} {N : Fr}

def boolOf (v : Value) : Option Bool := match v with | .bool b => some b | _ => none

theorem goO_ok {cf : CallF} (hcf : CallS P G cf) {ops : Array Oper} {i : Nat} {e : E} {h : H} {k : E → H → Bool} (hm : goO P G cf N ops i e h k = true) {φ : Phi} {w : World} {a : Act} (hg : GlobOk P G φ) (r : RE φ N e a) (R : Rel φ h w) (rest : List Nat) (Q : Exit → Act → World → Prop)
    (hnext : ∀ e' h' φ' a' w', k e' h' = true → RE φ' N e' a' → Rel φ' h' w' → Ext φ h.tr w φ' h'.tr w' → a'.defers = a.defers → wpOps P ops Q rest a' w') : wpOps P ops Q (i :: rest) a w := by
  unfold goO at hm
  simp only [wpOps]
  cases ho : ops[i]? with
  | none => rw [ho] at hm; simp [noO] at hm
  | some o =>
    rw [ho] at hm
    simp only at hm ⊢
    cases hgd : o.guard with
    | none =>
      rw [hgd] at hm
      rw [if_pos (by simp [Region.wanted, hgd])]
      exact .inl (vop_ok hcf o e h k hm φ w a hg r R _ Q hnext)
    | some jb =>
      obtain ⟨j, b⟩ := jb
      rw [hgd] at hm
      simp only at hm
      cases hq : ops[j]? with
      | none => rw [hq] at hm; simp [noO] at hm
      | some q =>
        rw [hq] at hm
        simp only at hm
        cases hqd : q.dst with
        | none => rw [hqd] at hm; simp [noO] at hm
        | some g =>
          rw [hqd] at hm
          simp only at hm
          by_cases hgN : g < N.n
          case neg => rw [if_neg hgN] at hm; simp [noO] at hm
          rw [if_pos hgN] at hm
          obtain ⟨v, hv, rv⟩ := r.at_ g hgN
          have hy : yielded ops a.tmps j = boolOf v := by
            unfold yielded
            rw [hq]; simp only [Option.bind_some, hqd, hv]
            cases v <;> rfl
          have hskip : (∀ t, v ≠ .bool t ∨ (t == b) = false) → dstO N o.dst V.u e (fun e' => k e' h) = true → (if Region.wanted o (yielded ops a.tmps) = true then o.wp P a w (wpOps P ops Q rest) Q ∨ o.asks P a w ∧ LetsOut Q else wpOps P ops Q rest (a.put o.dst undef) w) := fun hne hd => by
            have : Region.wanted o (yielded ops a.tmps) = false := by
              unfold Region.wanted
              rw [hgd]
              show (yielded ops a.tmps j == some b) = false
              rw [hy]
              cases v <;> first | rfl | skip
              rename_i t
              rcases hne t with q | q
              · exact absurd rfl q
              · show (some t == some b) = false; simpa using q
            rw [if_neg (by rw [this]; simp)]
            obtain ⟨e', hk, r'⟩ := dst_ok (c := undef) hd r .undef
            exact hnext e' h φ _ w hk r' R (.refl _ _ _) (put_defers _ _ _)
          have hm' : V.rec (motive := fun _ => Bool) (fun _ => false) (fun _ => false) (fun t => bs (bs b t (nots t)) (vop P G cf N o e h k) (dstO N o.dst V.u e fun e' => k e' h))
            (fun _ _ => false) (fun _ _ _ _ => false) (fun _ _ _ _ _ => false)
            (fun g _ _ _ _ => Tag.rec (motive := fun _ => Bool) (fun _ _ => false) false false false false false (dstO N o.dst V.u e fun e' => k e' h) false false false false (fun _ => false) (fun _ => false) (fun _ => false) false false false g) (getE N g e) = true := hm
          generalize hge : getE N g e = x at hm' rv
          cases x with
          | t t =>
            obtain rfl := rv.inv_t
            by_cases htb : t = b
            · subst htb
              have e1 : bs t t (nots t) = true := by cases t <;> rfl
              simp only [e1, bs_true] at hm'
              rw [if_pos (by unfold Region.wanted; rw [hgd]; show (yielded ops a.tmps j == some t) = true; rw [hy]; simp [boolOf])]
              exact .inl (vop_ok hcf o e h k hm' φ w a hg r R _ Q hnext)
            · have e1 : bs b t (nots t) = false := by cases t <;> cases b <;> first | rfl | exact absurd rfl htb
              simp only [e1, bs_false] at hm'
              exact hskip (fun t' => by
                by_cases q : t' = t
                · subst q; right; cases t' <;> cases b <;> first | rfl | exact absurd rfl htb
                · left; intro z; cases z; exact q rfl) hm'
          | w n => exact Bool.noConfusion (show false = true from hm')
          | y n => exact Bool.noConfusion (show false = true from hm')
          | s l n => exact Bool.noConfusion (show false = true from hm')
          | p _ _ _ _ => exact Bool.noConfusion (show false = true from hm')
          | sl _ _ _ _ _ => exact Bool.noConfusion (show false = true from hm')
          | x g1 a1 b1 =>
            cases g1 <;> try exact Bool.noConfusion (show false = true from hm')
            cases rv
            exact hskip (fun t => .inl (by simp)) hm'

theorem opsO_ok {cf : CallF} (hcf : CallS P G cf) {ops : Array Oper} (Q : Exit → Act → World → Prop) : ∀ (l : List Nat) {e : E} {h : H} {k : E → H → Bool}, opsO P G cf N ops l e h k = true → ∀ {φ : Phi} {w : World} {a : Act}, GlobOk P G φ → RE φ N e a → Rel φ h w →
    (∀ e' h' φ' a' w', k e' h' = true → RE φ' N e' a' → Rel φ' h' w' → Ext φ h.tr w φ' h'.tr w' → a'.defers = a.defers → Q .normal a' w') → wpOps P ops Q l a w
  | [], e, h, k, hm, φ, w, a, hg, r, R, hQ => hQ e h φ a w hm r R (.refl _ _ _) rfl
  | [i], e, h, k, hm, φ, w, a, hg, r, R, hQ => goO_ok hcf hm hg r R [] Q fun e' h' φ' a' w' hk r' R' X hd => hQ e' h' φ' a' w' hk r' R' X hd
  | i :: j :: rest, e, h, k, hm, φ, w, a, hg, r, R, hQ => goO_ok hcf (k := fun e' h' => opsO P G cf N ops (j :: rest) e' h' k) hm hg r R (j :: rest) Q fun e' h' φ' a' w' hk r' R' X hd =>
      opsO_ok hcf Q (j :: rest) hk (hg.mono X.le) r' R' fun e2 h2 φ2 a2 w2 hk2 r2 R2 X2 hd2 => hQ e2 h2 φ2 a2 w2 hk2 r2 R2 (X.trans X2) (hd2.trans hd)

/-! code -/
def xr : X → Exit → Prop
  | .n, .normal => True
  | .x i, .exit j => i = j
  | .r, .ret => True
  | _, _ => False

def PostK (N : Fr) (K : X → E → H → Bool) (φ : Phi) (h : H) (w : World) (d : List Deferred) : Exit → Act → World → Prop := fun x a' w' =>
  ∃ y e' h' φ', xr y x ∧ K y e' h' = true ∧ RE φ' N e' a' ∧ Rel φ' h' w' ∧ Ext φ h.tr w φ' h'.tr w' ∧ a'.defers = d

def CodeS (P : Program) (G : Nat → Bool) (N : Fr) (c : Code) (m : M) : Prop := ∀ e h K, m e h K = true → ∀ φ w a, GlobOk P G φ → RE φ N e a → Rel φ h w → c.wp P (PostK N K φ h w a.defers) a w

theorem noM_ok {c : Code} : CodeS P G N c noM := fun e h K hm => by simp [noM] at hm

theorem seqM_ok {x y : Code} {m n : M} (hx : CodeS P G N x m) (hy : CodeS P G N y n) : CodeS P G N (.seq x y) (seqM m n) := by
  intro e h K hm φ w a hg r R
  refine wp_seq (wp_mono (hx e h _ hm φ w a hg r R) ?_)
  rintro ex a' w' ⟨z, e', h', φ', hz, hK, r', R', X, hd⟩
  cases z with
  | n =>
    cases ex <;> simp [xr] at hz
    refine wp_mono (hy e' h' K hK φ' w' a' (hg.mono X.le) r' R') ?_
    rintro ex2 a2 w2 ⟨z2, e2, h2, φ2, hz2, hK2, r2, R2, X2, hd2⟩
    exact ⟨z2, e2, h2, φ2, hz2, hK2, r2, R2, X.trans X2, hd2.trans hd⟩
  | x i =>
    cases ex <;> simp [xr] at hz
    subst hz
    exact ⟨.x i, e', h', φ', rfl, hK, r', R', X, hd⟩
  | r =>
    cases ex <;> simp [xr] at hz
    exact ⟨.r, e', h', φ', trivial, hK, r', R', X, hd⟩

theorem condM_ok {c : Operand} {q : E → V} {x y : Code} {m n : M} (hc : opr P G N c = some q) (hx : CodeS P G N x m) (hy : CodeS P G N y n) : CodeS P G N (.cond c x y) (condM q m n) := by
  intro e h K hm φ w a hg r R
  obtain ⟨t, ht, hk⟩ := onT_true hm
  have rc := opr_ok hc hg r
  rw [ht] at rc
  have rc := rc.inv_t
  cases t with
  | true => exact wp_cond_true rc (hx e h K hk φ w a hg r R)
  | false => exact wp_cond_false rc (hy e h K hk φ w a hg r R)

theorem blockM_ok {i : Nat} {x : Code} {m : M} (hx : CodeS P G N x m) : CodeS P G N (.block i x) (blockM i m) := by
  intro e h K hm φ w a hg r R
  refine wp_block (wp_mono (hx e h _ hm φ w a hg r R) ?_)
  rintro ex a' w' ⟨z, e', h', φ', hz, hK, r', R', X, hd⟩
  cases z with
  | n => cases ex <;> simp [xr] at hz; exact ⟨.n, e', h', φ', trivial, hK, r', R', X, hd⟩
  | r => cases ex <;> simp [xr] at hz; exact ⟨.r, e', h', φ', trivial, hK, r', R', X, hd⟩
  | x j =>
    cases ex <;> simp [xr] at hz
    subst hz
    have hK : K (bs (Nat.beq j i) .n (.x j)) e' h' = true := hK
    simp only [Exit.inBlock]
    by_cases q : j = i
    · subst q
      rw [if_pos rfl]
      rw [Nat.beq_refl] at hK
      exact ⟨.n, e', h', φ', trivial, hK, r', R', X, hd⟩
    · rw [if_neg q]
      have : Nat.beq j i = false := by rw [← Bool.not_eq_true]; intro z; exact q (Nat.eq_of_beq_eq_true z)
      rw [this] at hK
      exact ⟨.x j, e', h', φ', rfl, hK, r', R', X, hd⟩

theorem loopM_ok {lf : Nat} {x : Code} {m : M} (hx : CodeS P G N x m) : CodeS P G N (.loop x) (loopM lf m) := by
  intro e h K hm φ w a hg r R b k cs
  have key : ∀ n e h, loopM n m e h K = true → ∀ φ w a, GlobOk P G φ → RE φ N e a → Rel φ h w → ∃ ex a' w', PostK N K φ h w a.defers ex a' w' ∧ Arrives P (lone (b.at a (.code x :: .inLoop x :: k)) cs w) b k cs ex a' w' := by
    intro n
    induction n with
    | zero => intro e h hm; exact Bool.noConfusion (show false = true from hm)
    | succ n ih =>
      intro e h hm φ w a hg r R
      obtain ⟨ex, a1, w1, ⟨z, e', h', φ', hz, hK, r', R', X, hd⟩, harr⟩ := hx e h _ hm φ w a hg r R b (.inLoop x :: k) cs
      cases z with
      | n =>
        cases ex <;> simp [xr] at hz
        obtain ⟨ex2, a2, w2, ⟨z2, e2, h2, φ2, hz2, hK2, r2, R2, X2, hd2⟩, harr2⟩ := ih e' h' hK φ' w1 a1 (hg.mono X.le) r' R'
        exact ⟨ex2, a2, w2, ⟨z2, e2, h2, φ2, hz2, hK2, r2, R2, X.trans X2, hd2.trans hd⟩, .of_steps (Steps.trans harr (.one step_inLoop)) harr2⟩
      | x i =>
        cases ex <;> simp [xr] at hz
        subst hz
        exact ⟨.exit i, a1, w1, ⟨.x i, e', h', φ', rfl, hK, r', R', X, hd⟩, .pass (x := .inLoop x) rfl (fun _ _ => .inl (by simp)) harr⟩
      | r =>
        cases ex <;> simp [xr] at hz
        exact ⟨.ret, a1, w1, ⟨.r, e', h', φ', trivial, hK, r', R', X, hd⟩, .pass (x := .inLoop x) rfl (fun _ _ => .inl (by simp)) harr⟩
  obtain ⟨ex, a', w', hp, harr⟩ := key lf e h hm φ w a hg r R
  exact ⟨ex, a', w', hp, .of_steps (.one step_loop) harr⟩

theorem seqR_eq (o : O) (m : M) : seqR o m = seqM (regM o) m := rfl

theorem regM_ok {cf : CallF} (hcf : CallS P G cf) (i : Nat) (ops : Array Oper) : CodeS P G N (.region i ops false) (regM (opsO P G cf N ops (List.range ops.size))) :=
  fun e h K hm φ w a hg r R => wp_region (opsO_ok hcf _ (List.range ops.size) (e := ⟨e.loc, .n⟩) hm hg r.drop R fun e' h' φ' a' w' hk r' R' X hd => ⟨.n, e', h', φ', trivial, hk, r', R', X, hd⟩)

theorem exec_ok {cf : CallF} (hcf : CallS P G cf) (lf : Nat) : ∀ c : Code, CodeS P G N c (exec P G cf lf N c)
  | .skip => fun e h K hm φ w a hg r R => wp_skip ⟨.n, e, h, φ, trivial, hm, r, R, .refl _ _ _, rfl⟩
  | .region i ops false => regM_ok hcf i ops
  | .region i ops true => by unfold exec; exact noM_ok
  | .seq a b => by
    have h := seqM_ok (exec_ok hcf lf a) (exec_ok hcf lf b)
    unfold exec seqX
    cases hp : plainR P G cf N a with
    | none => exact h
    | some q =>
      simp only
      rw [seqR_eq]
      cases a <;> try (simp [plainR] at hp; done)
      rename_i i ops d
      cases d
      · simp only [plainR, Option.some.injEq] at hp
        subst hp
        exact seqM_ok (regM_ok hcf i ops) (exec_ok hcf lf b)
      · simp [plainR] at hp
  | .cond c a b => by
    unfold exec
    split
    · rename_i hc; exact condM_ok hc (exec_ok hcf lf a) (exec_ok hcf lf b)
    · exact noM_ok
  | .block i a => blockM_ok (exec_ok hcf lf a)
  | .loop a => loopM_ok (exec_ok hcf lf a)
  | .exit i => fun e h K hm φ w a hg r R => wp_exit ⟨.x i, e, h, φ, rfl, hm, r, R, .refl _ _ _, rfl⟩
  | .ret => fun e h K hm φ w a hg r R => wp_ret ⟨.r, e, h, φ, trivial, hm, r, R, .refl _ _ _, rfl⟩
  | .rangeFunc .. => by unfold exec; exact noM_ok
  | .scope _ => by unfold exec; exact noM_ok
  | .label _ => by unfold exec; exact noM_ok
  | .goto _ => by unfold exec; exact noM_ok
  | .refuse _ => by unfold exec; exact noM_ok

end Go.Avm
