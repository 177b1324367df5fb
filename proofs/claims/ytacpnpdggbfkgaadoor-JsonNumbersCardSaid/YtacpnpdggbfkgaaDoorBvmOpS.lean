/- The abstract machine: an operation of its stands for the model's. Conditions: none. -/
import Derived.Test.YtacpnpdggbfkgaaDoorBvmStr
set_option linter.unusedVariables false
namespace Go.Bvm

mutual
theorem absV_ok (φ : Phi) : ∀ (v : Value) (x : V), absV v = some x → RV φ x v
  | .bool b, x, h => by simp [absV] at h; subst h; exact .t
  | .int k n, x, h => by
    cases k <;> simp only [absV] at h
    case i64 =>
      split at h
      · rename_i hh
        simp only [Option.some.injEq] at h; subst h
        have e : n = (((n + 9223372036854775808).toNat : Nat) : Int) - 9223372036854775808 := by omega
        have := RV.w (φ := φ) (n := (n + 9223372036854775808).toNat) (by omega)
        rw [← e] at this; exact this
      · simp at h
    case u8 =>
      split at h
      · rename_i hh
        simp only [Option.some.injEq] at h; subst h
        have e : n = ((n.toNat : Nat) : Int) := by omega
        have := RV.y (φ := φ) (n := n.toNat) (by omega)
        rw [← e] at this; exact this
      · simp at h
    all_goals (simp only [Option.some.injEq] at h; subst h; exact RV.mkI (by simp) (by simp))
  | .string s, x, h => by simp [absV] at h; subst h; exact .s rfl rfl
  | .pointer none, x, h => by simp [absV] at h; subst h; exact .pnil
  | .pointer (some _), x, h => by simp [absV] at h
  | .slice none 0 0, x, h => by simp [absV] at h; subst h; exact .slnil
  | .slice none 0 (_ + 1), x, h => by simp [absV] at h
  | .slice none (_ + 1) _, x, h => by simp [absV] at h
  | .slice (some _) _ _, x, h => by simp [absV] at h
  | .nilFunc, x, h => by simp [absV] at h; subst h; exact .fnil
  | .nilIface, x, h => by simp [absV] at h; subst h; exact .inil
  | .map none, x, h => by simp [absV] at h; subst h; exact .mnil
  | .map (some _), x, h => by simp [absV] at h
  | .agg ⟨l⟩, x, h => by
    simp only [absV] at h
    split at h
    · rename_i q hq
      split at h
      · rename_i hall
        simp only [Option.some.injEq] at h; subst h; exact .agg (absL_ok φ l q hq) (by simpa using hall)
      · simp at h
    · simp at h
  | .float _ _, x, h => by simp [absV] at h
  | .complex _ _ _, x, h => by simp [absV] at h
  | .chan _, x, h => by simp [absV] at h
  | .func _ _ _, x, h => by simp [absV] at h
  | .iface _ _, x, h => by simp [absV] at h
  | .tuple _, x, h => by simp [absV] at h
theorem absL_ok (φ : Phi) : ∀ (l : List Value) (x : V), absL l = some x → RL φ x l
  | [], x, h => by simp [absL] at h; subst h; exact .nil
  | v :: r, x, h => by
    simp only [absL] at h
    split at h
    · rename_i a b ha hb
      simp only [Option.some.injEq] at h; subst h; exact .cons (absV_ok φ v a ha) (absL_ok φ r b hb)
    · simp at h
end

variable {P : Program} {G : Nat → Bool} {N : Fr} {q : Operand → Option V}

/-- a run of the model's that ends in a value, or enters a function that returns -/
def OpRun (P : Program) (s : Sem Next) (w : World) (post : Value → World → Prop) : Prop :=
  (∃ c w', s.run P w = .ok (.value c) w' ∧ post c w') ∨ (∃ w', s.run P w = .ok .skip w' ∧ post undef w') ∨
  ∃ f args, s.run P w = .ok (.enter f args) w ∧ Calls P f args w fun e w' => ∃ c, e = .returned c ∧ post c w'

theorem OpRun.mono {s : Sem Next} {w : World} {post post' : Value → World → Prop} (h : OpRun P s w post) (k : ∀ c w', post c w' → post' c w') : OpRun P s w post' := by
  rcases h with ⟨c, w', h1, h2⟩ | ⟨w', h1, h2⟩ | ⟨f, args, h1, h2⟩
  · exact .inl ⟨c, w', h1, k _ _ h2⟩
  · exact .inr (.inl ⟨w', h1, k _ _ h2⟩)
  · exact .inr (.inr ⟨f, args, h1, h2.mono fun e w' ⟨c, e1, e2⟩ => ⟨c, e1, k _ _ e2⟩⟩)

theorem OpRun.wp {o : Oper} {a : Act} {w : World} {post : Value → World → Prop} {next : Act → World → Prop} {Q : Exit → Act → World → Prop} (h : OpRun P (execOp a.eval o) w post) (hn : ∀ c w', post c w' → next (a.put o.dst c) w') : o.wp P a w next Q := by
  unfold Oper.wp
  rcases h with ⟨c, w', h1, h2⟩ | ⟨w', h1, h2⟩ | ⟨f, args, h1, h2⟩
  · rw [h1]; exact hn _ _ h2
  · rw [h1]; exact hn _ _ h2
  · rw [h1, Oper.upon_enter]
    refine h2.mono ?_
    rintro e w' ⟨c, rfl, h3⟩
    exact hn _ _ h3

/-- what is known of the operands -/
def QR (φ : Phi) (q : Operand → Option V) (ρ : Operand → Value) : Prop := ∀ x a, q x = some a → RV φ a (ρ x)

theorem opr_ok {φ : Phi} {ρ : TL} {e : L8} {a : Act} (hg : GlobOk P G φ) (r : RE φ N ρ e a) : QR φ (opr P G N ρ e) a.eval := by
  intro x g h
  cases x with
  | tmp t =>
    simp only [opr] at h
    split at h
    · rename_i ht
      simp only [Option.some.injEq] at h; subst h
      obtain ⟨v, hv, rv, _⟩ := r.at_ t ht
      show RV φ _ (a.tmps.getD t undef)
      rw [Array.getD_eq_getD_getElem?, hv]; exact rv
    · simp at h
  | const v =>
    exact absV_ok φ v g h
  | global g =>
    simp only [opr] at h
    split at h
    · rename_i hG
      split at h
      · rename_i q hq
        simp only [Option.some.injEq] at h; subst h
        obtain ⟨l, hl, rfl, hb, hs⟩ := hg g q hG hq
        have := RV.p (off := 0) hl hs
        rw [hb] at this; exact this
      · simp at h
    · simp at h
  | func f =>
    simp only [opr, Option.some.injEq] at h; subst h; exact .func .nil .nil

theorem un_true {x : Operand} {f : V → Bool} (h : un q x f = true) : ∃ g, q x = some g ∧ f g = true := by
  unfold un at h
  split at h
  · exact ⟨_, ‹_›, h⟩
  · simp at h
theorem bi_true {x y : Operand} {f : V → V → Bool} (h : bi q x y f = true) : ∃ g g', q x = some g ∧ q y = some g' ∧ f g g' = true := by
  unfold bi at h
  split at h
  · exact ⟨_, _, ‹_›, ‹_›, h⟩
  · simp at h

theorem oprs_ok {φ : Phi} {ρ : Operand → Value} (r : QR φ q ρ) : ∀ (xs : List Operand) (l : V), oprs q xs = some l → RL φ l (xs.map ρ)
  | [], l, h => by simp [oprs] at h; subst h; exact .nil
  | x :: rest, l, h => by
    simp only [oprs] at h
    split at h
    · rename_i a b ha hb
      simp only [Option.some.injEq] at h; subst h
      exact .cons (r _ _ ha) (oprs_ok r rest b hb)
    · simp at h

/-- an operation that leaves memory alone and looks at none of it -/
def PopS (P : Program) (q : Operand → Option V) (o : Oper) (k : V → Bool) : Prop := ∀ φ (ρ : Operand → Value) h w, QR φ q ρ → Rel φ h w → ∃ v c, (execOp ρ o).run P w = .ok (.value c) w ∧ RV φ v c ∧ k v = true

theorem run_value (s : Sem Value) (w w' : World) (c : Value) (h : s.run P w = .ok c w') : (do pure (Next.value (← s)) : Sem Next).run P w = .ok (.value c) w' := by
  rw [Sem.run_bind, h]; rfl

theorem PopS.fun1 {o : Oper} {x : Operand} {f : V → (V → Bool) → Bool} {F : Value → Sem Value} {k : V → Bool} (h : un q x (fun a => f a k) = true) (hf : Fun1 P f F)
    (ho : ∀ ρ : Operand → Value, execOp ρ o = (do pure (Next.value (← F (ρ x))))) : PopS P q o k := by
  intro φ ρ hh w r R
  obtain ⟨g, hx, hk⟩ := un_true h
  obtain ⟨v, c, h1, h2, h3⟩ := hf φ _ _ hk _ (r _ _ hx) w
  exact ⟨v, c, by rw [ho]; exact run_value _ _ _ _ h1, h2, h3⟩
theorem PopS.fun2 {o : Oper} {x y : Operand} {f : V → V → (V → Bool) → Bool} {F : Value → Value → Sem Value} {k : V → Bool} (h : bi q x y (fun a b => f a b k) = true) (hf : Fun2 P f F)
    (ho : ∀ (ρ : Operand → Value) (w : World) c, (F (ρ x) (ρ y)).run P w = .ok c w → (execOp ρ o).run P w = .ok (.value c) w) : PopS P q o k := by
  intro φ ρ hh w r R
  obtain ⟨g, g', hx, hy, hk⟩ := bi_true h
  obtain ⟨v, c, h1, h2, h3⟩ := hf φ _ _ _ hk _ _ (r _ _ hx) (r _ _ hy) w
  exact ⟨v, c, ho ρ w c h1, h2, h3⟩

theorem mov_ok {o : Oper} {x : Operand} {k : V → Bool} (h : un q x k = true) (ho : o.op = .move x ∨ o.op = .assign x) : PopS P q o k := by
  intro φ ρ hh w r R
  obtain ⟨g, hx, hk⟩ := un_true h
  exact ⟨_, _, by rcases ho with ho | ho <;> (unfold execOp; rw [ho]; rfl), r _ _ hx, hk⟩

theorem pick_ok {o : Oper} {c x y : Operand} {k : V → Bool} (h : un q c (fun c => bi q x y fun a b => pickV c a b k) = true) (ho : o.op = .pick c x y) : PopS P q o k := by
  obtain ⟨dst, op', ty, pos, aft, grd⟩ := o
  simp only at ho; subst ho
  intro φ ρ hh w r R
  obtain ⟨z, hc, h⟩ := un_true h
  obtain ⟨g, g', hx, hy, h⟩ := bi_true h
  obtain ⟨t, ht, hk⟩ := onT_true h
  have rc := r _ _ hc
  rw [ht] at rc
  have rc := rc.inv_t
  refine ⟨_, if t = true then ρ x else ρ y, ?_, ?_, hk⟩
  · show (do pure (Next.value (if ← asBool (ρ c) then ρ x else ρ y)) : Sem Next).run P w = _
    rw [rc]; rfl
  · cases t
    · exact r _ _ hy
    · exact r _ _ hx

theorem run_under {t : TypeId} {d : TypeDesc} (h : P.underlying t = some d) (w : World) : (underlying t).run P w = .ok d w := by
  unfold underlying; rw [Sem.run_bind, run_program]; simp only [Result.andThen_ok, h]; rfl
theorem run_info {t : TypeId} {d : TypeInfo} (h : P.info? t = some d) (w : World) : (typeInfo t).run P w = .ok d w := by
  unfold typeInfo; rw [Sem.run_bind, run_program]; simp only [Result.andThen_ok, h]; rfl

/-- numbers and strings: no guard -/
theorem binop_exec (op : BinOp) (t : TypeId) (x y : Operand) (u : TypeId) (o : Oper) (ho : o.op = .binOp op t x y u) (ρ : Operand → Value) (w : World) (c : Value)
    (hne : (op ≠ .eql ∧ op ≠ .neq) ∨ ((ρ x ≠ .nilIface ∨ ρ y ≠ .nilIface ∨ x = .const .nilIface ∨ y = .const .nilIface) ∧ ∀ l, ρ x ≠ .agg l))
    (h : (Go.binOp op t (ρ x) (ρ y)).run P w = .ok c w) : (execOp ρ o).run P w = .ok (.value c) w := by
  obtain ⟨dst, op', ty, pos, aft, grd⟩ := o
  simp only at ho; subst ho
  refine run_value (do eqGuard op t x y (ρ x) (ρ y); Go.binOp op t (ρ x) (ρ y)) _ _ _ ?_
  rw [Sem.run_bind]
  have : (eqGuard op t x y (ρ x) (ρ y)).run P w = .ok () w := by
    unfold eqGuard
    rcases hne with ⟨h1, h2⟩ | ⟨h1, h2⟩
    · cases op <;> simp at h1 h2 ⊢
    · cases op <;> simp
      all_goals
        split
        · rename_i e1 e2
          rcases h1 with k | k | k | k
          · exact absurd e1 k
          · exact absurd e2 k
          · subst k; simp
          · subst k; simp
        · exact absurd ‹_› (h2 _)
        · rfl
  rw [this]; exact h

theorem cmp_noagg {f : Nat → Nat → Bool} {g : Int → Int → Bool} {hs : Nat → Nat → Nat → Nat → (V → Bool) → Bool} {φ : Phi} {x y : V} {k : V → Bool} (h : cmpV f g hs x y k = true) (c : Value) (hc : RV φ x c) : c ≠ .nilIface ∧ ∀ l, c ≠ .agg l := by
  rcases cmp_true h with ⟨n, m, rfl, rfl, hk⟩ | ⟨n, m, rfl, rfl, hk⟩ | ⟨l, n, l', n', rfl, rfl, hk⟩ | ⟨q, n, m, _, _, _, _, rfl, rfl, hk⟩
  · obtain ⟨_, rfl⟩ := hc.inv_w; simp
  · obtain ⟨_, rfl⟩ := hc.inv_y; simp
  · obtain ⟨_, rfl, _⟩ := hc.inv_s; simp
  · obtain ⟨_, _, rfl⟩ := hc.inv_int; simp

theorem eqT_fun (f : Bool → Bool) (op : BinOp) (t : TypeId) (ht : P.underlying t = some .bool) (hop : op = .eql ∧ f = idB ∨ op = .neq ∧ f = nots) : Fun2 P (eqT f) (Go.binOp op t) := by
  intro φ x y k h c d hc hd w
  obtain ⟨b, rfl, h2⟩ := onT_true h
  obtain ⟨b', rfl, hk⟩ := onT_true h2
  obtain rfl := hc.inv_t; obtain rfl := hd.inv_t
  have e : (Op.equal t (.bool b) (.bool b')).run P w = .ok (b == b') w := by
    unfold Op.equal Op.maxDepth
    show (Op.equalIn (9999 + 1) t (.bool b) (.bool b')).run P w = _
    unfold Op.equalIn
    rw [Sem.run_bind, run_under ht]; rfl
  have e2 : bs b b' (nots b') = (b == b') := by cases b <;> cases b' <;> rfl
  rw [e2] at hk
  rcases hop with ⟨rfl, rfl⟩ | ⟨rfl, rfl⟩
  · refine ⟨_, .bool (b == b'), ?_, .t, hk⟩
    show (do pure (Value.bool (← Op.equal t (.bool b) (.bool b'))) : Sem Value).run P w = _
    rw [Sem.run_bind, e]; rfl
  · rw [nots_eq] at hk
    refine ⟨_, .bool (!(b == b')), ?_, .t, hk⟩
    show (do pure (Value.bool (!(← Op.equal t (.bool b) (.bool b')))) : Sem Value).run P w = _
    rw [Sem.run_bind, e]; rfl

end Go.Bvm
