/- The abstract machine: an operation of its stands for the model's. Conditions: none. -/
import Derived.Test.YtacpnpdggbfkgaaAvmStr
set_option linter.unusedVariables false
namespace Go.Avm

mutual
theorem absV_ok (φ : Phi) : ∀ (v : Value) (x : V), absV v = some x → RV φ x v
  | .bool b, x, h => by simp [absV] at h; subst h; exact .t
  | .int k n, x, h => by
    cases k <;> simp only [absV] at h
    case i64 =>
      split at h
      · rename_i hh
        simp only [Option.some.injEq] at h; subst h
        have e : n = (((n + 9223372036854775808).toNat : Nat) : Int) - 9223372036854775808 := by omega
        have := RV.w (φ := φ) (n := (n + 9223372036854775808).toNat) (by omega)
        rw [← e] at this; exact this
      · simp at h
    case u8 =>
      split at h
      · rename_i hh
        simp only [Option.some.injEq] at h; subst h
        have e : n = ((n.toNat : Nat) : Int) := by omega
        have := RV.y (φ := φ) (n := n.toNat) (by omega)
        rw [← e] at this; exact this
      · simp at h
    all_goals (simp only [Option.some.injEq] at h; subst h; exact RV.mkI (by simp) (by simp))
  | .string s, x, h => by simp [absV] at h; subst h; exact .s rfl rfl
  | .pointer none, x, h => by simp [absV] at h; subst h; exact .pnil
  | .pointer (some _), x, h => by simp [absV] at h
  | .slice none 0 0, x, h => by simp [absV] at h; subst h; exact .slnil
  | .slice none 0 (_ + 1), x, h => by simp [absV] at h
  | .slice none (_ + 1) _, x, h => by simp [absV] at h
  | .slice (some _) _ _, x, h => by simp [absV] at h
  | .nilFunc, x, h => by simp [absV] at h; subst h; exact .fnil
  | .nilIface, x, h => by simp [absV] at h; subst h; exact .inil
  | .map none, x, h => by simp [absV] at h; subst h; exact .mnil
  | .map (some _), x, h => by simp [absV] at h
  | .agg ⟨l⟩, x, h => by
    simp only [absV] at h
    split at h
    · rename_i q hq
      split at h
      · rename_i hall
        simp only [Option.some.injEq] at h; subst h; exact .agg (absL_ok φ l q hq) (by simpa using hall)
      · simp at h
    · simp at h
  | .float _ _, x, h => by simp [absV] at h
  | .complex _ _ _, x, h => by simp [absV] at h
  | .chan _, x, h => by simp [absV] at h
  | .func _ _ _, x, h => by simp [absV] at h
  | .iface _ _, x, h => by simp [absV] at h
  | .tuple _, x, h => by simp [absV] at h
theorem absL_ok (φ : Phi) : ∀ (l : List Value) (x : V), absL l = some x → RL φ x l
  | [], x, h => by simp [absL] at h; subst h; exact .nil
  | v :: r, x, h => by
    simp only [absL] at h
    split at h
    · rename_i a b ha hb
      simp only [Option.some.injEq] at h; subst h; exact .cons (absV_ok φ v a ha) (absL_ok φ r b hb)
    · simp at h
end

variable {P : Program} {G : Nat → Bool} {N : Fr}

def OpS (P : Program) (G : Nat → Bool) (N : Fr) (o : Oper) (m : O) : Prop := ∀ e h k, m e h k = true → ∀ φ w a, GlobOk P G φ → RE φ N e a → Rel φ h w → ∀ (next : Act → World → Prop) (Q : Exit → Act → World → Prop),
  (∀ e' h' φ' a' w', k e' h' = true → RE φ' N e' a' → Rel φ' h' w' → Ext φ h.tr w φ' h'.tr w' → a'.defers = a.defers → next a' w') → o.wp P a w next Q

theorem put_defers (a : Act) (d : Option Tmp) (v : Value) : (a.put d v).defers = a.defers := by cases d <;> rfl

theorem dst_ok {d : Option Tmp} {v : V} {e : E} {kk : E → Bool} (h : dstO N d v e kk = true) {φ : Phi} {a : Act} (r : RE φ N e a) {c : Value} (hv : RV φ v c) : ∃ e', kk e' = true ∧ RE φ N e' (a.put d c) := by
  cases d with
  | none => exact ⟨e, h, r⟩
  | some t =>
    simp only [dstO] at h
    split at h
    · rename_i ht
      exact ⟨_, h, r.put ht hv⟩
    · simp at h

theorem opr_ok {x : Operand} {g : E → V} (h : opr P G N x = some g) {φ : Phi} {e : E} {a : Act} (hg : GlobOk P G φ) (r : RE φ N e a) : RV φ (g e) (a.eval x) := by
  cases x with
  | tmp t =>
    simp only [opr] at h
    split at h
    · rename_i ht
      simp only [Option.some.injEq] at h; subst h
      obtain ⟨v, hv, rv⟩ := r.at_ t ht
      show RV φ _ (a.tmps.getD t undef)
      rw [Array.getD_eq_getD_getElem?, hv]; exact rv
    · simp at h
  | const v =>
    simp only [opr] at h
    split at h
    · rename_i q hq
      simp only [Option.some.injEq] at h; subst h; exact absV_ok φ v q hq
    · simp at h
  | global g =>
    simp only [opr] at h
    split at h
    · rename_i hG
      split at h
      · rename_i q hq
        simp only [Option.some.injEq] at h; subst h
        obtain ⟨l, hl, rfl, hb, hs⟩ := hg g q hG hq
        have := RV.p (off := 0) hl hs
        rw [hb] at this; exact this
      · simp at h
    · simp at h
  | func f =>
    simp only [opr, Option.some.injEq] at h; subst h; exact .func .nil .nil

theorem OpS.value {o : Oper} {m : O} (h : ∀ e h k, m e h k = true → ∀ φ w a, GlobOk P G φ → RE φ N e a → Rel φ h w → ∃ v c h' φ' w', (execOp a.eval o).run P w = .ok (.value c) w' ∧ RV φ' v c ∧ Rel φ' h' w' ∧ Ext φ h.tr w φ' h'.tr w' ∧ dstO N o.dst v e (fun e' => k e' h') = true) :
    OpS P G N o m := by
  intro e hh k hm φ w a hg r R next Q hnext
  obtain ⟨v, c, h', φ', w', hrun, hv, R', X, hd⟩ := h e hh k hm φ w a hg r R
  obtain ⟨e', hk, r'⟩ := dst_ok hd (r.mono X.le) hv
  unfold Oper.wp
  rw [hrun]
  exact hnext e' h' φ' _ w' hk r' R' X (put_defers _ _ _)

/-- an operation that leaves memory alone -/
theorem OpS.still {o : Oper} {m : O} (h : ∀ e h k, m e h k = true → ∀ φ w a, GlobOk P G φ → RE φ N e a → Rel φ h w → ∃ v c, (execOp a.eval o).run P w = .ok (.value c) w ∧ RV φ v c ∧ dstO N o.dst v e (fun e' => k e' h) = true) :
    OpS P G N o m :=
  .value fun e h0 k hm φ w a hg r R => let ⟨v, c, h1, h2, h3⟩ := h e h0 k hm φ w a hg r R; ⟨v, c, h0, φ, w, h1, h2, R, .refl _ _ _, h3⟩

theorem noO_ok {o : Oper} : OpS P G N o noO := fun e h k hm => by simp [noO] at hm

theorem un_ok {o : Oper} {x : Operand} {f : (E → V) → O} (h : ∀ g, opr P G N x = some g → OpS P G N o (f g)) : OpS P G N o (un P G N x f) := by
  unfold un
  split
  · exact h _ ‹_›
  · exact noO_ok
theorem bi_ok {o : Oper} {x y : Operand} {f : (E → V) → (E → V) → O} (h : ∀ g g', opr P G N x = some g → opr P G N y = some g' → OpS P G N o (f g g')) : OpS P G N o (bi P G N x y f) := by
  unfold bi
  split
  · exact h _ _ ‹_› ‹_›
  · exact noO_ok

theorem mov_ok {o : Oper} {x : Operand} {g : E → V} (hx : opr P G N x = some g) (ho : o.op = .move x ∨ o.op = .assign x) : OpS P G N o (movO (dstO N o.dst) g) :=
  .still fun e h k hm φ w a hg r R => ⟨_, _, by rcases ho with ho | ho <;> (unfold execOp; rw [ho]; rfl), opr_ok hx hg r, hm⟩

theorem run_value (s : Sem Value) (w w' : World) (c : Value) (h : s.run P w = .ok c w') : (do pure (Next.value (← s)) : Sem Next).run P w = .ok (.value c) w' := by
  rw [Sem.run_bind, h]; rfl

theorem un_fun_ok {o : Oper} {x : Operand} {g : E → V} {f : V → (V → Bool) → Bool} {F : Value → Sem Value} (hx : opr P G N x = some g) (hf : Fun1 P f F)
    (ho : ∀ ρ : Operand → Value, execOp ρ o = (do pure (Next.value (← F (ρ x))))) : OpS P G N o (unO f (dstO N o.dst) g) :=
  .still fun e h k hm φ w a hg r R => by
    obtain ⟨v, c, h1, h2, h3⟩ := hf φ _ _ hm _ (opr_ok hx hg r) w
    exact ⟨v, c, by rw [ho]; exact run_value _ _ _ _ h1, h2, h3⟩
theorem bi_fun_ok {o : Oper} {x y : Operand} {g g' : E → V} {f : V → V → (V → Bool) → Bool} {F : Value → Value → Sem Value} (hx : opr P G N x = some g) (hy : opr P G N y = some g') (hf : Fun2 P f F)
    (ho : ∀ a : Act, ∀ w : World, ∀ c, (F (a.eval x) (a.eval y)).run P w = .ok c w → (execOp a.eval o).run P w = .ok (.value c) w) : OpS P G N o (binO f (dstO N o.dst) g g') :=
  .still fun e h k hm φ w a hg r R => by
    obtain ⟨v, c, h1, h2, h3⟩ := hf φ _ _ _ hm _ _ (opr_ok hx hg r) (opr_ok hy hg r) w
    exact ⟨v, c, ho a w c h1, h2, h3⟩

theorem pick_ok {o : Oper} {c x y : Operand} {q g g' : E → V} (hc : opr P G N c = some q) (hx : opr P G N x = some g) (hy : opr P G N y = some g') (ho : o.op = .pick c x y) : OpS P G N o (pickO (dstO N o.dst) q g g') := by
  obtain ⟨dst, op', ty, pos, aft, grd⟩ := o
  simp only at ho; subst ho
  exact .still fun e h k hm φ w a hg r R => by
    obtain ⟨t, ht, hk⟩ := onT_true hm
    have rc := opr_ok hc hg r
    rw [ht] at rc
    have rc := rc.inv_t
    refine ⟨_, if t = true then a.eval x else a.eval y, ?_, ?_, hk⟩
    · show (do pure (Next.value (if ← asBool (a.eval c) then a.eval x else a.eval y)) : Sem Next).run P w = _
      rw [rc]; rfl
    · cases t
      · exact opr_ok hy hg r
      · exact opr_ok hx hg r

/-- numbers and strings: no guard -/
theorem binop_exec (op : BinOp) (t : TypeId) (x y : Operand) (u : TypeId) (o : Oper) (ho : o.op = .binOp op t x y u) (a : Act) (w : World) (c : Value) (hne : op ≠ .eql ∧ op ≠ .neq ∨ a.eval x ≠ .nilIface ∧ ∀ l, a.eval x ≠ .agg l)
    (h : (Go.binOp op t (a.eval x) (a.eval y)).run P w = .ok c w) : (execOp a.eval o).run P w = .ok (.value c) w := by
  obtain ⟨dst, op', ty, pos, aft, grd⟩ := o
  simp only at ho; subst ho
  refine run_value (do eqGuard op t x y (a.eval x) (a.eval y); Go.binOp op t (a.eval x) (a.eval y)) _ _ _ ?_
  rw [Sem.run_bind]
  have : (eqGuard op t x y (a.eval x) (a.eval y)).run P w = .ok () w := by
    unfold eqGuard
    rcases hne with ⟨h1, h2⟩ | ⟨h1, h2⟩
    · cases op <;> simp at h1 h2 ⊢
    · cases op <;> simp
      all_goals
        split
        · exact absurd ‹_› h1
        · exact absurd ‹_› (h2 _)
        · rfl
  rw [this]; exact h

theorem binop_ok {o : Oper} {op : BinOp} {t u : TypeId} {x y : Operand} {g g' : E → V} {f : V → V → (V → Bool) → Bool} (hx : opr P G N x = some g) (hy : opr P G N y = some g') (ho : o.op = .binOp op t x y u)
    (hne : op ≠ .eql ∧ op ≠ .neq) (hf : Fun2 P f (Go.binOp op t)) : OpS P G N o (binO f (dstO N o.dst) g g') :=
  bi_fun_ok hx hy hf fun a w c h => binop_exec op t x y u o ho a w c (.inl hne) h

theorem eqop_ok {o : Oper} {op : BinOp} {t u : TypeId} {x y : Operand} {g g' : E → V} {f : V → V → (V → Bool) → Bool} (hx : opr P G N x = some g) (hy : opr P G N y = some g') (ho : o.op = .binOp op t x y u)
    (hf : Fun2 P f (Go.binOp op t)) (hn : ∀ φ x y k, f x y k = true → ∀ c, RV φ x c → c ≠ .nilIface ∧ ∀ l, c ≠ .agg l) : OpS P G N o (binO f (dstO N o.dst) g g') :=
  .still fun e h k hm φ w a hg r R => by
    obtain ⟨v, c, h1, h2, h3⟩ := hf φ _ _ _ hm _ _ (opr_ok hx hg r) (opr_ok hy hg r) w
    exact ⟨v, c, binop_exec op t x y u o ho a w c (.inr (hn φ _ _ _ hm _ (opr_ok hx hg r))) h1, h2, h3⟩

theorem cmp_noagg {f : Nat → Nat → Bool} {g : Int → Int → Bool} {hs : Nat → Nat → Nat → Nat → (V → Bool) → Bool} {φ : Phi} {x y : V} {k : V → Bool} (h : cmpV f g hs x y k = true) (c : Value) (hc : RV φ x c) : c ≠ .nilIface ∧ ∀ l, c ≠ .agg l := by
  rcases cmp_true h with ⟨n, m, rfl, rfl, hk⟩ | ⟨n, m, rfl, rfl, hk⟩ | ⟨l, n, l', n', rfl, rfl, hk⟩ | ⟨q, n, m, _, _, _, _, rfl, rfl, hk⟩
  · obtain ⟨_, rfl⟩ := hc.inv_w; simp
  · obtain ⟨_, rfl⟩ := hc.inv_y; simp
  · obtain ⟨_, rfl, _⟩ := hc.inv_s; simp
  · obtain ⟨_, _, rfl⟩ := hc.inv_int; simp

theorem run_under {t : TypeId} {d : TypeDesc} (h : P.underlying t = some d) (w : World) : (underlying t).run P w = .ok d w := by
  unfold underlying; rw [Sem.run_bind, run_program]; simp only [Result.andThen_ok, h]; rfl
theorem run_info {t : TypeId} {d : TypeInfo} (h : P.info? t = some d) (w : World) : (typeInfo t).run P w = .ok d w := by
  unfold typeInfo; rw [Sem.run_bind, run_program]; simp only [Result.andThen_ok, h]; rfl

theorem eqT_fun (f : Bool → Bool) (op : BinOp) (t : TypeId) (ht : P.underlying t = some .bool) (hop : op = .eql ∧ f = idB ∨ op = .neq ∧ f = nots) : Fun2 P (eqT f) (Go.binOp op t) := by
  intro φ x y k h c d hc hd w
  obtain ⟨b, rfl, h2⟩ := onT_true h
  obtain ⟨b', rfl, hk⟩ := onT_true h2
  obtain rfl := hc.inv_t; obtain rfl := hd.inv_t
  have e : (Op.equal t (.bool b) (.bool b')).run P w = .ok (b == b') w := by
    unfold Op.equal Op.maxDepth
    show (Op.equalIn (9999 + 1) t (.bool b) (.bool b')).run P w = _
    unfold Op.equalIn
    rw [Sem.run_bind, run_under ht]; rfl
  have e2 : bs b b' (nots b') = (b == b') := by cases b <;> cases b' <;> rfl
  rw [e2] at hk
  rcases hop with ⟨rfl, rfl⟩ | ⟨rfl, rfl⟩
  · refine ⟨_, .bool (b == b'), ?_, .t, hk⟩
    show (do pure (Value.bool (← Op.equal t (.bool b) (.bool b'))) : Sem Value).run P w = _
    rw [Sem.run_bind, e]; rfl
  · rw [nots_eq] at hk
    refine ⟨_, .bool (!(b == b')), ?_, .t, hk⟩
    show (do pure (Value.bool (!(← Op.equal t (.bool b) (.bool b')))) : Sem Value).run P w = _
    rw [Sem.run_bind, e]; rfl

end Go.Avm
