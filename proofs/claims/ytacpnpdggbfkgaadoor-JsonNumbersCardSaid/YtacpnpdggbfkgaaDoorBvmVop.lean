/- The abstract machine: each operation that it takes stands for the model's. Conditions: none. -/
import Derived.Test.YtacpnpdggbfkgaaDoorBvmIter
set_option linter.unusedVariables false
namespace Go.Bvm
variable {P : Program} {G : Nat → Bool} {N : Fr} {q : Operand → Option V}

theorem Fun2.no (g : Value → Value → Sem Value) : Fun2 P no2 g := fun φ x y k h => by simp [no2] at h
theorem Fun1.no (g : Value → Sem Value) : Fun1 P no1 g := fun φ x k h => by simp [no1] at h

/-- equality where one is nil -/
theorem eqN_fun {nk : V → (Bool → Bool) → Bool} {isn : Value → Bool} {f : Bool → Bool} {op : BinOp} {t : TypeId} (hop : op = .eql ∧ f = idB ∨ op = .neq ∧ f = nots)
    (hnk : ∀ φ v k c, nk v k = true → RV φ v c → k (isn c) = true) (hno : ∀ φ v k c, nk v k = true → RV φ v c → (∀ q n, c ≠ .int q n) ∧ (∀ s, c ≠ .string s) ∧ (∀ q n, c ≠ .float q n) ∧ (∀ q n m, c ≠ .complex q n m))
    (heq : ∀ φ x y k k' c d w, nk x k = true → nk y k' = true → RV φ x c → RV φ y d → (isn c || isn d) = true → (Op.equal t c d).run P w = .ok (isn c && isn d) w) : Fun2 P (eqN nk f) (Go.binOp op t) := by
  intro φ x y k h c d hc hd w
  have h1 := hnk φ x _ c h hc
  have h2 := hnk φ y _ d h1 hd
  obtain ⟨h3, hk⟩ := both_true h2
  have hor : (isn c || isn d) = true := by cases e : isn c <;> rw [e] at h3 <;> first | rfl | exact h3
  have hand : both (isn c) (isn d) = (isn c && isn d) := by cases isn c <;> rfl
  rw [hand] at hk
  have he := heq φ x y _ _ c d w h h1 hc hd hor
  obtain ⟨n1, n2, n3, n4⟩ := hno φ x _ c h hc
  rcases hop with ⟨rfl, rfl⟩ | ⟨rfl, rfl⟩
  · refine ⟨_, .bool (isn c && isn d), ?_, .t, hk⟩
    have e : Go.binOp .eql t c d = (do pure (Value.bool (← Op.equal t c d))) := by
      cases c <;> first | rfl | exact absurd rfl (n1 _ _) | exact absurd rfl (n2 _) | exact absurd rfl (n3 _ _) | exact absurd rfl (n4 _ _ _)
    rw [e, Sem.run_bind, he]; rfl
  · rw [nots_eq] at hk
    refine ⟨_, .bool (!(isn c && isn d)), ?_, .t, hk⟩
    have e : Go.binOp .neq t c d = (do pure (Value.bool (!(← Op.equal t c d)))) := by
      cases c <;> first | rfl | exact absurd rfl (n1 _ _) | exact absurd rfl (n2 _) | exact absurd rfl (n3 _ _) | exact absurd rfl (n4 _ _ _)
    rw [e, Sem.run_bind, he]; rfl

def isNil : Value → Bool
  | .pointer none => true
  | .slice none _ _ => true
  | .nilFunc => true
  | .nilIface => true
  | .map none => true
  | _ => false

theorem run_equal {t : TypeId} {d : TypeDesc} {x y : Value} (ht : P.underlying t = some d) (w : World) (r : Sem Bool) (h : ∀ n, (Op.equalIn (n + 1) t x y).run P w = ((underlying t).run P w).andThen fun _ w => r.run P w) : (Op.equal t x y).run P w = r.run P w := by
  unfold Op.equal Op.maxDepth
  show (Op.equalIn (9999 + 1) t x y).run P w = _
  rw [h, run_under ht]; rfl

/-- what a nil test passes -/
theorem nilP_true {φ : Phi} {v : V} {k : Bool → Bool} {c : Value} (h : nilP v k = true) (r : RV φ v c) : k (isNil c) = true ∧ ∃ a, c = .pointer a := by
  cases r <;> first | exact ⟨h, _, rfl⟩ | exact Bool.noConfusion (show false = true from h)
theorem nilS_true {φ : Phi} {v : V} {k : Bool → Bool} {c : Value} (h : nilS v k = true) (r : RV φ v c) : k (isNil c) = true ∧ ∃ a b d, c = .slice a b d := by
  cases r <;> first | exact ⟨h, _, _, _, rfl⟩ | exact Bool.noConfusion (show false = true from h)
theorem nilF_true {φ : Phi} {v : V} {k : Bool → Bool} {c : Value} (h : nilF v k = true) (r : RV φ v c) : k (isNil c) = true ∧ (c = .nilFunc ∨ ∃ f a b, c = .func f a b) := by
  cases r <;> first | exact ⟨h, .inl rfl⟩ | exact ⟨h, .inr ⟨_, _, _, rfl⟩⟩ | exact Bool.noConfusion (show false = true from h)
theorem nilI_true {φ : Phi} {v : V} {k : Bool → Bool} {c : Value} (h : nilI v k = true) (r : RV φ v c) : k (isNil c) = true ∧ (c = .nilIface ∨ ∃ t u, c = .iface t u) := by
  cases r <;> first | exact ⟨h, .inl rfl⟩ | exact ⟨h, .inr ⟨_, _, rfl⟩⟩ | exact Bool.noConfusion (show false = true from h)
theorem nilM_true {φ : Phi} {v : V} {k : Bool → Bool} {c : Value} (h : nilM v k = true) (r : RV φ v c) : k (isNil c) = true ∧ ∃ a, c = .map a := by
  cases r <;> first | exact ⟨h, _, rfl⟩ | exact Bool.noConfusion (show false = true from h)

theorem under_of_hasT {t : TypeId} (h : hasT P t = true) : ∃ i, P.info? t = some i := let ⟨_, hd⟩ := hasT_under h; under_info hd

theorem eqF_fun (f : Bool → Bool) (op : BinOp) (t : TypeId) (hop : op = .eql ∧ f = idB ∨ op = .neq ∧ f = nots) : Fun2 P (eqF P f t) (Go.binOp op t) := by
  unfold eqF
  split
  · rename_i ht; exact eqT_fun f op t ht hop
  · rename_i e ht
    split
    rotate_left
    · exact Fun2.no _
    rename_i he
    obtain ⟨j, hj⟩ := under_of_hasT he
    refine eqPt_fun hop ht hj ?_
    refine eqN_fun (isn := isNil) hop (fun φ v k c h r => (nilP_true h r).1) (fun φ v k c h r => by obtain ⟨_, a, rfl⟩ := nilP_true h r; simp) fun φ x y k k' c d w h h' r r' hor => ?_
    obtain ⟨_, a, rfl⟩ := nilP_true h r
    obtain ⟨_, b, rfl⟩ := nilP_true h' r'
    unfold Op.equal Op.maxDepth
    show (Op.equalIn (9999 + 1) t _ _).run P w = _
    unfold Op.equalIn
    rw [Sem.run_bind, run_under ht]
    cases a <;> cases b <;> first | rfl | simp [isNil] at hor
  · rename_i e ht
    refine eqN_fun (isn := isNil) hop (fun φ v k c h r => (nilS_true h r).1) (fun φ v k c h r => by obtain ⟨_, a, b, d, rfl⟩ := nilS_true h r; simp) fun φ x y k k' c d w h h' r r' hor => ?_
    obtain ⟨_, a, _, _, rfl⟩ := nilS_true h r
    obtain ⟨_, b, _, _, rfl⟩ := nilS_true h' r'
    unfold Op.equal Op.maxDepth
    show (Op.equalIn (9999 + 1) t _ _).run P w = _
    unfold Op.equalIn
    rw [Sem.run_bind, run_under ht]
    cases a <;> cases b <;> first | rfl | simp [isNil] at hor
  · rename_i e ht
    refine eqN_fun (isn := isNil) hop (fun φ v k c h r => (nilI_true h r).1) (fun φ v k c h r => by obtain ⟨_, rfl | ⟨_, _, rfl⟩⟩ := nilI_true h r <;> simp) fun φ x y k k' c d w h h' r r' hor => ?_
    unfold Op.equal Op.maxDepth
    show (Op.equalIn (9999 + 1) t _ _).run P w = _
    unfold Op.equalIn
    rw [Sem.run_bind, run_under ht]
    obtain ⟨_, rfl | ⟨_, _, rfl⟩⟩ := nilI_true h r <;> obtain ⟨_, rfl | ⟨_, _, rfl⟩⟩ := nilI_true h' r' <;> first | rfl | simp [isNil] at hor
  · rename_i e1 e2 ht
    refine eqN_fun (isn := isNil) hop (fun φ v k c h r => (nilM_true h r).1) (fun φ v k c h r => by obtain ⟨_, a, rfl⟩ := nilM_true h r; simp) fun φ x y k k' c d w h h' r r' hor => ?_
    obtain ⟨_, a, rfl⟩ := nilM_true h r
    obtain ⟨_, b, rfl⟩ := nilM_true h' r'
    unfold Op.equal Op.maxDepth
    show (Op.equalIn (9999 + 1) t _ _).run P w = _
    unfold Op.equalIn
    rw [Sem.run_bind, run_under ht]
    cases a <;> cases b <;> first | rfl | simp [isNil] at hor
  · rename_i e1 e2 e3 ht
    refine eqN_fun (isn := isNil) hop (fun φ v k c h r => (nilF_true h r).1) (fun φ v k c h r => by obtain ⟨_, rfl | ⟨_, _, _, rfl⟩⟩ := nilF_true h r <;> simp) fun φ x y k k' c d w h h' r r' hor => ?_
    unfold Op.equal Op.maxDepth
    show (Op.equalIn (9999 + 1) t _ _).run P w = _
    unfold Op.equalIn
    rw [Sem.run_bind, run_under ht]
    obtain ⟨_, rfl | ⟨_, _, _, rfl⟩⟩ := nilF_true h r <;> obtain ⟨_, rfl | ⟨_, _, _, rfl⟩⟩ := nilF_true h' r' <;> first | rfl | simp [isNil] at hor
  · exact Fun2.no _

theorem byK_fun {t : TypeId} {w y z s : F2} {g : Value → Value → Sem Value} (hw : Fun2 P w g) (hy : Fun2 P y g) (hz : Fun2 P z g) (hs : Fun2 P s g) : Fun2 P (byK P t w y z s) g := by
  unfold byK
  split
  · exact hw
  · exact hy
  · exact hz
  · exact hs
  · exact Fun2.no _

theorem binF_fun (op : BinOp) (t : TypeId) : Fun2 P (binF P op t) (Go.binOp op t) := by
  unfold binF
  split
  · exact byK_fun (addW_fun P t) (addY_fun P t) (add_fun P t) (cat_fun P t)
  · exact byK_fun (subW_fun P t) (subY_fun P t) (sub_fun P t) (Fun2.no _)
  · exact byK_fun (mul_fun P t) (mul_fun P t) (mul_fun P t) (Fun2.no _)
  · exact byK_fun (quo_fun P t) (quo_fun P t) (quo_fun P t) (Fun2.no _)
  · exact byK_fun (rem_fun P t) (rem_fun P t) (rem_fun P t) (Fun2.no _)
  · exact byK_fun (lssW_fun P t) (lssY_fun P t) (lss_fun P t) (lss_fun P t)
  · exact byK_fun (leqW_fun P t) (leqY_fun P t) (leq_fun P t) (leq_fun P t)
  · exact byK_fun (gtrW_fun P t) (gtrY_fun P t) (gtr_fun P t) (gtr_fun P t)
  · exact byK_fun (geq_fun P t) (geqY_fun P t) (geq_fun P t) (geq_fun P t)
  · split
    · exact eqlW_fun P t
    · exact eqlY_fun P t
    · exact eql_fun P t
    · exact eqlS_fun P t
    · exact eqF_fun _ _ t (.inl ⟨rfl, rfl⟩)
  · split
    · exact neqW_fun P t
    · exact neqY_fun P t
    · exact neq_fun P t
    · exact neqS_fun P t
    · exact eqF_fun _ _ t (.inr ⟨rfl, rfl⟩)
  · exact shr_fun P t
  · exact Fun2.no _

theorem eqF_no {f : Bool → Bool} {t : TypeId} {φ : Phi} {x y : V} {k : V → Bool} {c : Value} (h : eqF P f t x y k = true) (hc : RV φ x c) : (∀ l, c ≠ .agg l) ∧ (c ≠ .nilIface ∨ ∃ ms, P.underlying t = some (.interface ms)) := by
  generalize hF : eqF P f t = F at h
  unfold eqF at hF
  split at hF <;> subst hF
  · obtain ⟨b, rfl, _⟩ := onT_true h
    obtain rfl := hc.inv_t; simp
  · split at h
    · unfold eqPt at h
      cases hb : both (isP x) (isP y) with
      | true =>
        rw [hb, bs_true] at h
        obtain ⟨i, o, l, v, ex, _⟩ := onP_true h
        rw [ex] at hc
        obtain ⟨m, _, _, rfl⟩ := hc.inv_p; simp
      | false =>
        rw [hb, bs_false] at h
        obtain ⟨_, a, rfl⟩ := nilP_true h hc; simp
    · simp [no2] at h
  · obtain ⟨_, a, b, d, rfl⟩ := nilS_true h hc; simp
  · rename_i ms ht
    exact ⟨by obtain ⟨_, rfl | ⟨_, _, rfl⟩⟩ := nilI_true h hc <;> simp, .inr ⟨_, ht⟩⟩
  · obtain ⟨_, a, rfl⟩ := nilM_true h hc; simp
  · obtain ⟨_, rfl | ⟨_, _, _, rfl⟩⟩ := nilF_true h hc <;> simp
  · simp [no2] at h

theorem binF_no {op : BinOp} {t : TypeId} {φ : Phi} {x y : V} {k : V → Bool} {c : Value} (hop : op = .eql ∨ op = .neq) (h : binF P op t x y k = true) (hc : RV φ x c) : (∀ l, c ≠ .agg l) ∧ (c ≠ .nilIface ∨ ∃ ms, P.underlying t = some (.interface ms)) := by
  rcases hop with rfl | rfl
  all_goals
    generalize hF : binF P _ t = F at h
    simp only [binF] at hF
    split at hF <;> subst hF
    · obtain ⟨n, rfl, _⟩ := onW_true h
      obtain ⟨_, rfl⟩ := hc.inv_w; simp
    · obtain ⟨n, rfl, _⟩ := onY_true h
      obtain ⟨_, rfl⟩ := hc.inv_y; simp
    · have := cmp_noagg h c hc
      exact ⟨this.2, .inl this.1⟩
    · obtain ⟨l, n, rfl, _⟩ := onS_true h
      obtain ⟨_, rfl, _⟩ := hc.inv_s; simp
    · exact eqF_no h hc

theorem isNilC_true {x : Operand} (h : isNilC x = true) : x = .const .nilIface := by
  unfold isNilC at h
  split at h
  · rfl
  · simp at h

theorem binO_ok {o : Oper} {op : BinOp} {t u : TypeId} {x y : Operand} {k : V → Bool} (h : bi q x y (fun a b => binF P op t a b k) = true) (hok : okEq P op t x y = true) (ho : o.op = .binOp op t x y u) : PopS P q o k := by
  intro φ ρ hh w r R
  obtain ⟨g, g', hx, hy, hk⟩ := bi_true h
  obtain ⟨v, c, h1, h2, h3⟩ := binF_fun op t φ _ _ _ hk _ _ (r _ _ hx) (r _ _ hy) w
  refine ⟨v, c, binop_exec op t x y u o ho ρ w c ?_ h1, h2, h3⟩
  by_cases hop : op = .eql ∨ op = .neq
  · right
    obtain ⟨n1, n2⟩ := binF_no hop hk (r _ _ hx)
    refine ⟨?_, n1⟩
    rcases n2 with n2 | ⟨ms, ht⟩
    · exact .inl n2
    · have hb : (isNilC x || isNilC y) = true := by
        rcases hop with rfl | rfl <;> (unfold okEq at hok; rw [ht] at hok; exact hok)
      rcases Bool.or_eq_true _ _ ▸ hb with e | e
      · exact .inr (.inr (.inl (isNilC_true e)))
      · exact .inr (.inr (.inr (isNilC_true e)))
  · left
    exact ⟨fun e => hop (.inl e), fun e => hop (.inr e)⟩

theorem convF_fun (src dst : TypeId) : Fun1 P (convF P src dst) (fun v => convert src dst v) := by
  unfold convF
  split
  · rename_i h1 h2
    split
    · rename_i h; subst h; exact toW_fun h1 h2
    · rename_i n1
      split
      · rename_i h; subst h; exact toY_fun h1 h2
      · rename_i n2; exact toI_fun n1 n2 h1 h2
  · rename_i h1 h2
    intro φ v k h c hc w
    obtain ⟨l, n, rfl, hk⟩ := onS_true h
    obtain ⟨s, rfl, rfl, rfl⟩ := hc.inv_s
    exact ⟨_, _, str_fun h1 h2 s w, .s rfl rfl, hk⟩
  · exact Fun1.no _


theorem lenO_ok {o : Oper} {ts : Array TypeId} {x : Operand} {xs : Array Operand} {f : V → (V → Bool) → Bool} {k : V → Bool} (h : un q x (fun a => f a k) = true) (ho : o.op = .call ⟨.builtin .len, xs, ts⟩) (hxs : xs.toList = [x]) (hf : Fun1 P f (fun v => Builtin.len_ ts o.type #[v])) : PopS P q o k := by
  obtain ⟨dst', op', ty, pos, aft, grd⟩ := o
  simp only at ho; subst ho
  obtain rfl := args_one hxs
  refine PopS.fun1 h hf fun ρ => ?_
  simp [execOp, resolve]
  rfl

theorem sdO_ok {o : Oper} {ts : Array TypeId} {x : Operand} {xs : Array Operand} {k : V → Bool} (h : un q x (fun a => sdata a k) = true) (ho : o.op = .call ⟨.builtin .unsafeSliceData, xs, ts⟩) (hxs : xs.toList = [x]) : PopS P q o k := by
  obtain ⟨dst', op', ty, pos, aft, grd⟩ := o
  simp only at ho; subst ho
  obtain rfl := args_one hxs
  refine PopS.fun1 h (sdata_fun (ts := ts) (ty := ty)) fun ρ => ?_
  simp [execOp, resolve]
  rfl

theorem capO_ok {o : Oper} {ts : Array TypeId} {t e : TypeId} {x : Operand} {xs : Array Operand} {k : V → Bool} (h : un q x (fun a => capL a k) = true) (ho : o.op = .call ⟨.builtin .cap, xs, ts⟩) (hxs : xs.toList = [x]) (hts : ts[0]? = some t) (ht : P.underlying t = some (.slice e)) : PopS P q o k := by
  obtain ⟨dst', op', ty, pos, aft, grd⟩ := o
  simp only at ho; subst ho
  obtain rfl := args_one hxs
  refine PopS.fun1 (F := fun v => Builtin.cap_ ts ty #[v]) h (fun φ x k h c hc w => ?_) fun ρ => ?_
  · obtain ⟨v, r, e1, e2, e3⟩ := capL_fun (ty := ty) ht φ x k h c hc w
    refine ⟨v, r, ?_, e2, e3⟩
    have : (Builtin.cap_ ts ty #[c]).run P w = (Builtin.cap_ #[t] ty #[c]).run P w := by
      unfold Builtin.cap_; rw [hts]; rfl
    exact this.trans e1
  · simp [execOp, resolve]
    rfl
theorem copO_ok {o : Oper} {ts : Array TypeId} {t t' u e : TypeId} {x y : Operand} {xs : Array Operand} {k : V → Bool} (h : bi q x y (fun a b => copL a b k) = true) (ho : o.op = .call ⟨.builtin .copy, xs, ts⟩) (hxs : xs.toList = [x, y]) (hts : ts[0]? = some t) (hts2 : ts.toList = [t', u]) (ht : P.underlying t = some (.slice e)) (hs : (P.info? e).map (·.size) = some 1) : PopS P q o k := by
  obtain ⟨dst', op', ty, pos, aft, grd⟩ := o
  simp only at ho; subst ho
  obtain rfl := args_two hxs
  obtain rfl : ts = #[t', u] := by apply Array.ext'; rw [hts2]
  obtain rfl : t' = t := by simpa using hts
  refine PopS.fun2 h (copL_fun (ty := ty) (u := u) ht hs) fun ρ w c hr => ?_
  simp [execOp, resolve]
  exact run_value (Builtin.copy_ #[t', u] ty #[ρ x, ρ y]) _ _ _ hr

theorem pop_ok (o : Oper) {k : V → Bool} (h : pop P q o.op k = true) : PopS P q o k := by
  unfold pop at h
  split at h
  · rename_i ho; exact mov_ok h (.inl ho)
  · rename_i ho; exact mov_ok h (.inr ho)
  · rename_i ho; exact pick_ok h ho
  · rename_i ho; exact nilck_ok h ho
  · rename_i ho
    split at h
    · rename_i ks hk
      split at h
      · exact eqAg_ok hk (.inl ⟨rfl, rfl⟩) h ho
      · exact eqAg_ok hk (.inr ⟨rfl, rfl⟩) h ho
      · simp at h
    · split at h
      · rename_i hok; exact binO_ok h hok ho
      · simp at h
  · rename_i ho
    exact PopS.fun1 h (not_fun P) fun ρ => by
      obtain ⟨dst', op', ty, pos, aft, grd⟩ := o
      simp only at ho; subst ho; rfl
  · rename_i ho
    exact PopS.fun1 h (neg_fun P) fun ρ => by
      obtain ⟨dst', op', ty, pos, aft, grd⟩ := o
      simp only at ho; subst ho; rfl
  · rename_i s t x ho
    exact PopS.fun1 (F := fun v => convert s t v) h (convF_fun s t) fun ρ => by
      obtain ⟨dst', op', ty, pos, aft, grd⟩ := o
      simp only at ho; subst ho; rfl
  · rename_i ho
    split at h
    · rename_i ht
      split at h
      · rename_i he
        obtain ⟨i, hi⟩ := under_of_hasT he
        exact sarr_ok h ho ht hi
      · simp at h
    · rename_i ht; exact sstr_ok h ho ht
    · rename_i ht
      split at h
      · rename_i he
        obtain ⟨i, hi⟩ := under_of_hasT he
        exact ssli_ok h ho ht hi
      · simp at h
    · simp at h
  · rename_i ho
    split at h
    · rename_i hs
      split at h
      · rename_i hf
        split at h
        · simp at h
        · rename_i hq; exact fad_ok h ho hs hf hq
      · simp at h
    · simp at h
  · rename_i t x i ho
    have key : ∀ f, Fun2 P f (fun a b => Instr.indexAt t a b) → bi q x i (fun a b => f a b k) = true → PopS P q o k := fun f hf hm => PopS.fun2 hm hf fun ρ w c hr => by
      obtain ⟨dst', op', ty, pos, aft, grd⟩ := o
      simp only at ho; subst ho
      exact run_value (Instr.indexAt t (ρ x) (ρ i)) _ _ _ hr
    split at h
    · rename_i ht
      split at h
      · rename_i he
        obtain ⟨i, hi⟩ := under_of_hasT he
        exact key _ (iad_fun ht hi) h
      · simp at h
    · rename_i ht
      split at h
      · rename_i he
        obtain ⟨i, hi⟩ := under_of_hasT he
        exact key _ (iaa_fun ht hi) h
      · simp at h
    · simp at h
  · rename_i t x i ho
    split at h
    · rename_i ht
      exact PopS.fun2 h (sidx_fun P t ht) fun ρ w c hr => by
        obtain ⟨dst', op', ty, pos, aft, grd⟩ := o
        simp only at ho; subst ho
        exact run_value (Instr.index t (ρ x) (ρ i)) _ _ _ hr
    · simp at h
  · rename_i t x f ho
    split at h
    · rename_i ht
      split at h
      · rename_i hf
        split at h
        · rename_i hq
          exact PopS.fun1 h (field_fun ht hf hq) fun ρ => by
            obtain ⟨dst', op', ty, pos, aft, grd⟩ := o
            simp only at ho; subst ho; rfl
        · simp at h
      · simp at h
    · simp at h
  · rename_i ho
    split at h
    · rename_i ht hi
      split at h
      · rename_i hz
        split at h
        · rename_i hall
          split at h
          · rename_i hv
            exact build_ok h ho ht hi hz hv fun f hf => under_of_hasT (List.all_eq_true.1 hall f hf)
          · simp at h
        · simp at h
      · simp at h
    · simp at h
  · rename_i ho
    split at h
    · rename_i hl hm; exact mkf_ok h ho hl hm
    · simp at h
  · rename_i ho
    split at h
    · simp at h
    · rename_i hn ht; exact mki_ok h ho ht fun m e => hn m e
    · simp at h
  · rename_i x i ho
    exact PopS.fun1 (F := fun v => Instr.extract v i) h (ext_fun i) fun ρ => by
      obtain ⟨dst', op', ty, pos, aft, grd⟩ := o
      simp only at ho; subst ho; rfl
  · rename_i ho
    split at h
    · rename_i hxs hts
      split at h
      · rename_i ht; exact lenO_ok h ho hxs (lenS_fun hts ht)
      · rename_i ht; exact lenO_ok h ho hxs (lenL_fun hts ht)
      · simp at h
    · rename_i hxs; exact sdO_ok h ho hxs
    · rename_i hxs hts
      split at h
      · rename_i ht; exact capO_ok h ho hxs hts ht
      · simp at h
    · rename_i hxs hts
      split at h
      · rename_i ht hts2
        split at h
        · rename_i he; exact copO_ok h ho hxs hts hts2 ht he
        · simp at h
      · simp at h
    · rename_i hxs; exact mm_ok h ho hxs max_fun (.inl ⟨rfl, rfl⟩)
    · rename_i hxs; exact mm_ok h ho hxs min_fun (.inr ⟨rfl, rfl⟩)
    · simp at h
  · simp at h

theorem lop_ok (o : Oper) {h : H} {k : V → Bool} (hm : lop P q o.op h k = true) {φ : Phi} {ρ : Operand → Value} {w : World} (r : QR φ q ρ) (R : Rel φ h w) : ∃ v c, (execOp ρ o).run P w = .ok (.value c) w ∧ RV φ v c ∧ k v = true := by
  unfold lop at hm
  split at hm
  · rename_i ho
    split at hm
    · rename_i ht; exact ld_ok hm ho ht r R
    · simp at hm
  · rename_i ho
    split at hm
    · rename_i h1 h2
      split at hm
      · rename_i h3; exact b2s_ok hm ho h1 h2 h3 r R
      · simp at hm
    · rename_i h1 h2
      split at hm
      · simp at hm
      · rename_i hz; exact cvU_ok hm ho h1 h2 hz r R
    · rename_i h1 h2
      split at hm
      · rename_i hl
        split at hm
        · simp at hm
        · rename_i hz; exact cvP_ok hm ho h1 h2 hl hz r R
      · simp at hm
    · simp at hm
  · rename_i ho
    split at hm
    · rename_i ht
      split at hm
      · rename_i hkt hi
        split at hm
        · rename_i hz
          split at hm
          · rename_i ha; exact mpL_ok hm ho ht hkt hi hz ha r R
          · simp at hm
        · simp at hm
      · simp at hm
    · simp at hm
  · simp at hm

theorem aop_ok (o : Oper) {id : Nat} {h : H} {k : KV} (hm : aop P q o.op id h k = true) : AopS P q o id h k := by
  unfold aop at hm
  split at hm
  · rename_i ho
    split at hm
    · exact box_ok hm ho
    · simp at hm
  · rename_i ho
    split at hm
    · split at hm
      · rename_i hi
        split at hm
        · rename_i hz
          split at hm
          · rename_i hv; exact alloc_ok hm hi hz hv ho
          · simp at hm
        · simp at hm
      · simp at hm
    · simp at hm
  · rename_i ho
    split at hm
    · rename_i h1 h2
      split at hm
      · rename_i h3; exact s2b_ok hm ho h1 h2 h3
      · simp at hm
    · simp at hm
  · rename_i ho
    split at hm
    · rename_i ht
      split at hm
      · rename_i hi
        split at hm
        · rename_i hz
          split at hm
          · rename_i hc
            obtain ⟨c1, c2, c3, c4⟩ := hc
            split at hm
            · rename_i hv
              exact bsl_ok hm ho ht hi hz hv c3 (by omega)
            · simp at hm
          · simp at hm
        · simp at hm
      · simp at hm
    · simp at hm
  · rename_i ho
    split at hm
    · rename_i ht; exact itA_ok hm ho ht
    · simp at hm
  · rename_i ho; exact mapA_ok hm ho
  · rename_i ho
    split at hm
    · rename_i ht
      split at hm
      · rename_i hi
        split at hm
        · rename_i hz
          split at hm
          · rename_i hv
            split at hm
            · rename_i hc
              exact mksl_ok hm ho ht hi hz hv hc.1 hc.2.1 hc.2.2
            · simp at hm
          · simp at hm
        · simp at hm
      · simp at hm
    · simp at hm
  · simp at hm

theorem fop_ok {cf : CallF} (hcf : CallS P G cf) (o : Oper) {h : H} {k : KV} (hm : fop P cf q o.op h k = true) {φ : Phi} {ρ : Operand → Value} {w : World} (hg : GlobOk P G φ) (hρ : ∀ f, ρ (.func f) = .func (.func f) #[] #[]) (r : QR φ q ρ) (R : Rel φ h w) : OpRun P (execOp ρ o) w (FPost k φ h w) := by
  unfold fop at hm
  split at hm
  · rename_i ho
    split at hm
    · rename_i ht; exact st_ok hm ho ht r R
    · simp at hm
  · rename_i ho
    split at hm
    · rename_i hl; exact call_ok hcf hm hl ho hg (hρ _) r R
    · simp at hm
  · rename_i ho
    split at hm
    · rename_i hl
      obtain ⟨g, hx, hm⟩ := un_true hm
      exact callv_ok hcf hm hx hl ho hg r R
    · simp at hm
  · rename_i ho
    split at hm
    · rename_i hxs
      unfold appOp at hm
      split at hm
      · rename_i hts
        split at hm
        · rename_i ht htu
          split at hm
          · rename_i hu hi
            split at hm
            · rename_i hby
              split at hm
              · rename_i hz
                split at hm
                · rename_i hzs; exact app_ok hm ho hxs hts htu ht hu (.inl rfl) hi hz hzs hby r R
                · simp at hm
              · simp at hm
            · simp at hm
          · rename_i hu hi
            split at hm
            · rename_i hby
              split at hm
              · rename_i hz
                split at hm
                · rename_i hzs; exact app_ok hm ho hxs hts htu ht hu (.inr ⟨_, rfl⟩) hi hz hzs hby r R
                · simp at hm
              · simp at hm
            · simp at hm
          · simp at hm
        · simp at hm
      · simp at hm
    · simp at hm
  · rename_i ho
    obtain ⟨g, hx, hm2⟩ := un_true hm
    exact itN_ok hm ho r R
  · rename_i ho
    split at hm
    · rename_i ht
      split at hm
      · rename_i hkt; exact mpI_ok hm ho ht hkt r R
      · simp at hm
    · simp at hm
  · rename_i ho
    split at hm
    · rename_i h1 h2
      split at hm
      · rename_i hst
        split at hm
        · rename_i he
          obtain ⟨rfl, rfl⟩ := hst
          exact cvS_ok hm ho h1 he r R
        · simp at hm
      · simp at hm
    · simp at hm
  · rename_i ho
    split at hm
    · rename_i hxs hts
      split at hm
      · rename_i ht
        split at hm
        · rename_i he; exact usS_ok hm ho hxs hts ht he r R
        · simp at hm
      · simp at hm
    · simp at hm
  · simp at hm

/-- room kept for a new block -/
theorem Rel.resv {φ : Phi} {h : H} {w : World} (R : Rel φ h w) {n : Nat} (hn : h.next + n ≤ 262144) : Rel φ ⟨h.next + n, h.tr⟩ w :=
  ⟨hn, fun id v l e => let ⟨a, b, c⟩ := R.dom id v l e; ⟨by show id < h.next + n; omega, b, c⟩, R.blk, R.apart⟩

theorem vop_ok {cf : CallF} (hcf : CallS P G cf) (o : Oper) {h : H} {k : KV} (hm : vop P cf q o.op h k = true) {φ : Phi} {ρ : Operand → Value} {w : World} (hg : GlobOk P G φ) (hρ : ∀ f, ρ (.func f) = .func (.func f) #[] #[]) (r : QR φ q ρ) (R : Rel φ h w) : OpRun P (execOp ρ o) w (FPost k φ h w) := by
  unfold vop at hm
  split at hm
  · obtain ⟨v, c, h1, h2, h3⟩ := pop_ok o hm φ ρ h w r R
    exact .inl ⟨c, w, h1, v, h, φ, h3, h2, R, .refl _ _ _⟩
  · obtain ⟨v, c, h1, h2, h3⟩ := lop_ok o hm r R
    exact .inl ⟨c, w, h1, v, h, φ, h3, h2, R, .refl _ _ _⟩
  · obtain ⟨h1, h2⟩ := both_true hm
    have h1 := ble_true h1
    obtain ⟨c, w', e1, v, h', φ', e2, e3, e4, e5, e6⟩ := aop_ok o h2 φ ρ w r (R.resv h1) (Nat.lt_succ_self _) R.fresh
    exact .inl ⟨c, w', e1, v, h', φ', e2, e3, e4, e5 h.next (Nat.le_refl _)⟩
  · exact fop_ok hcf o hm hg hρ r R

end Go.Bvm
