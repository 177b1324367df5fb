/- The abstract machine: regions that may run in several orders, held against the model. Conditions: none. -/
import Derived.Test.YtacpnpdggbfkgaaDoorBvmOrd
set_option linter.unusedVariables false
namespace Go.Bvm
variable {P : Program} {G : Nat → Bool} {N : Fr} {cf : CallF} {ops : Array Oper} {b : Nat}

theorem notIn_true {d : Option Tmp} {l : List Nat} (h : notIn d l = true) : ∀ t, d = some t → t ∉ l := by
  intro t ht; subst ht
  simpa [notIn] using h
theorem otherD_true {d d' : Option Tmp} (h : otherD d d' = true) : ∀ t, d = some t → d' ≠ some t := by
  intro t ht ht'; subst ht ht'
  simp [otherD] at h
theorem isA_of {c : Cl} (h : isA c = true) : c = .a := by cases c <;> first | rfl | exact Bool.noConfusion (show false = true from h)
theorem isF_of {c : Cl} (h : isF c = true) : c = .f := by cases c <;> first | rfl | exact Bool.noConfusion (show false = true from h)
theorem isP_of {c : Cl} (h : isP' c = true) : c = .p := by cases c <;> first | rfl | exact Bool.noConfusion (show false = true from h)
theorem apartB_true {l x : Od} (h : apartB ops l x = true) : Apart ops l x := by
  simp only [apartB, Bool.and_eq_true] at h
  exact fun d hd => ⟨notIn_true h.1 d hd, otherD_true h.2 d hd⟩
theorem pairOkB_true {x y : Od} (h : pairOkB P ops x y = true) : PairOk P ops x y := by
  simp only [pairOkB, Bool.and_eq_true, Bool.or_eq_true] at h
  obtain ⟨⟨⟨h1, h2⟩, h3⟩, h4⟩ := h
  refine ⟨notIn_true h1, notIn_true h2, otherD_true h3, ?_⟩
  rcases h4 with (((h | h) | h) | h) | h
  · exact .inl (isP_of h)
  · exact .inr (.inl (isP_of h))
  · exact .inr (.inr (.inl ⟨isL_of h.1, isL_of h.2⟩))
  · exact .inr (.inr (.inr (.inl (isA_of h))))
  · exact .inr (.inr (.inr (.inr ⟨isL_of h.1.1, isF_of h.1.2, by simpa using h.2⟩)))
theorem pairAllB_true {x y : Od} (h : pairAllB P ops x y = true) : PairAll P ops x y := by
  simp only [pairAllB, Bool.and_eq_true, Bool.or_eq_true, Bool.not_eq_true'] at h
  obtain ⟨⟨⟨⟨h1, h2⟩, h3⟩, h4⟩, h5⟩ := h
  refine ⟨fun e => by rw [e] at h1; simp at h1, by simpa using h2, fun a c e => ?_, fun hk => ?_, fun hc => ?_⟩
  · rw [a, c, e] at h3; simp [isA] at h3
  · rcases h4 with h4 | h4
    · rw [hk] at h4; simp at h4
    · exact apartB_true h4
  · rcases h5 with h5 | h5
    · simp at h5; exact absurd hc h5
    · exact h5
theorem oneB_true {x : Od} (h : oneB P ops x = true) : One P ops x := by
  simp only [oneB, Bool.and_eq_true, Bool.or_eq_true, Bool.not_eq_true'] at h
  refine ⟨fun hk => ?_, fun hc => ?_⟩
  · rcases h.1 with h1 | h1
    · rw [hk] at h1; simp at h1
    · exact ⟨isL_of h1.1, notIn_true h1.2⟩
  · rcases h.2 with h1 | h1
    · exact absurd (by simpa using h1) hc
    · exact isF_of h1

/-- what the check of a region says -/
structure Sta (P : Program) (ops : Array Oper) (L : List Od) : Prop where
  pw : L.Pairwise fun x y => PairAll P ops x y ∧ (Nat.testBit y.m x.i = true ∨ PairOk P ops x y) ∧ ∀ j, j ∈ afterB ops x.i → j ≠ y.i
  one : ∀ x, x ∈ L → One P ops x ∧ x.i < ops.size ∧ ∀ j, j ∈ afterB ops x.i → j < ops.size ∧ j ≠ x.i

theorem Sta.sub {L L' : List Od} (h : Sta P ops L) (s : L'.Sublist L) : Sta P ops L' := ⟨h.pw.sublist s, fun x hx => h.one x (s.subset hx)⟩

theorem restB_true : ∀ {L : List Od}, restB P ops L = true → Sta P ops L
  | [], _ => ⟨.nil, by simp⟩
  | x :: r, h => by
    simp only [restB, Bool.and_eq_true, List.all_eq_true] at h
    obtain ⟨⟨⟨⟨h1, h2⟩, h3⟩, h4⟩, h5⟩ := h
    obtain ⟨p, o⟩ := restB_true h5
    refine ⟨List.pairwise_cons.2 ⟨fun y hy => ?_, p⟩, fun z hz => ?_⟩
    · have := h4 y hy
      simp only [Bool.or_eq_true] at this
      refine ⟨pairAllB_true this.1, this.2.imp id pairOkB_true, fun j hj e => ?_⟩
      have := (h3 j hj).2 y hy
      rw [e] at this; simp at this
    · rcases List.mem_cons.1 hz with rfl | hz
      · refine ⟨oneB_true h1, ble_true h2, fun j hj => ⟨ble_true (h3 j hj).1.1, fun e => ?_⟩⟩
        have := (h3 j hj).1.2
        rw [e] at this; simp at this
      · exact o z hz

theorem orL_testBit {m : Nat → Nat} {j : Nat} : ∀ {l : List Nat} {n : Nat}, Nat.testBit (orL m l n) j = true → Nat.testBit n j = true ∨ ∃ i, i ∈ l ∧ (j = i ∨ Nat.testBit (m i) j = true)
  | [], n, h => .inl h
  | i :: r, n, h => by
    rcases orL_testBit (l := r) h with h | ⟨k, h1, h2⟩
    · have h : Nat.testBit ((1 <<< i ||| m i) ||| n) j = true := h
      rw [Nat.testBit_or, Nat.testBit_or, Bool.or_eq_true, Bool.or_eq_true] at h
      rcases h with (h | h) | h
      · refine .inr ⟨i, by simp, .inl ?_⟩
        rw [Nat.one_shiftLeft, Nat.testBit_two_pow] at h
        exact (of_decide_eq_true h).symm
      · exact .inr ⟨i, by simp, .inr h⟩
      · exact .inl h
    · exact .inr ⟨k, by simp [h1], h2⟩

theorem maskIn_some {L : List Od} {i j : Nat} (h : Nat.testBit (maskIn L i) j = true) : ∃ z, z ∈ L ∧ z.i = i ∧ Nat.testBit z.m j = true := by
  unfold maskIn at h
  split at h
  · rename_i x hx
    have h2 : Nat.beq x.i i = true := by have := List.find?_some hx; exact this
    exact ⟨x, List.mem_of_find?_eq_some hx, beq_true h2, h⟩
  · simp at h

theorem mem_ready {listed : Array Bool} {i : Nat} : i ∈ Region.ready .any ops listed ↔ i < ops.size ∧ listed.getD i true = false ∧ ∀ j, j ∈ afterB ops i → listed.getD j false = true := by
  unfold Region.ready
  rw [List.mem_filter, List.mem_range]
  constructor
  · rintro ⟨h1, h2⟩
    rw [Bool.and_eq_true] at h2
    refine ⟨h1, by simpa using h2.1, fun j hj => ?_⟩
    unfold afterB at hj
    rw [Array.getElem?_eq_getElem h1] at hj h2
    simp only [List.mem_filterMap] at hj
    obtain ⟨e, he, hj⟩ := hj
    have := h2.2
    simp only [Option.map_some, Option.getD_some, Array.all_eq_true'] at this
    have := this e (by simpa using he)
    split at hj
    · rename_i hb
      simp only [Option.some.injEq] at hj; subst hj
      rw [hb] at this; simpa using this
    · simp at hj
  · rintro ⟨h1, h2, h3⟩
    refine ⟨h1, ?_⟩
    rw [Bool.and_eq_true]
    refine ⟨by simpa using h2, ?_⟩
    unfold afterB at h3
    rw [Array.getElem?_eq_getElem h1] at h3 ⊢
    simp only [Option.map_some, Option.getD_some, Array.all_eq_true']
    intro e he
    cases hb : Region.binds .any e with
    | false => simp
    | true =>
      have := h3 e.on (by simp only [List.mem_filterMap]; exact ⟨e, by simpa using he, by rw [if_pos hb]⟩)
      rw [this]; simp

/-! one operation held against the model -/
def DPost (k : KV) (φ : Phi) (n0 id : Nat) (A : Prop) (h : H) (w : World) (c : Value) (w' : World) : Prop := ∃ v h' φ', k v h' = true ∧ RV φ' v c ∧ Rel φ' h' w' ∧ Ext φ ⟨n0, h.tr⟩ w φ' h' w' ∧
  ∀ i, i < h.next → hget i h.tr = .nb → (A → i ≠ id) → (∀ u, φ i u = none) → ∀ u, φ' i u = none

theorem Ext.from {φ φ' : Phi} {h h' : H} {w w' : World} (X : Ext φ h w φ' h' w') {n0 : Nat} (hn : n0 ≤ h.next) : Ext φ ⟨n0, h.tr⟩ w φ' h' w' :=
  ⟨X.le, X.os, X.tape, X.output, X.size, Nat.le_trans hn X.next, X.own, X.vis, X.frame, fun id hi => X.dead id (Nat.lt_of_lt_of_le hi hn)⟩

theorem vopD_ok {q : Operand → Option V} (hcf : CallS P G cf) (o : Oper) {id n0 : Nat} {h : H} {k : KV} (hm : vopD P cf q id o.op h k = true) {φ : Phi} {ρ : Operand → Value} {w : World} (hg : GlobOk P G φ) (hρ : ∀ f, ρ (.func f) = .func (.func f) #[] #[]) (r : QR φ q ρ) (R : Rel φ h w) (hn : n0 ≤ h.next)
    (hid : clOf P o.op = .a → n0 ≤ id ∧ id < h.next ∧ ∀ u, φ id u = none) : OpRun P (execOp ρ o) w (DPost k φ n0 id (clOf P o.op = .a) h w) := by
  unfold vopD at hm
  split at hm
  · obtain ⟨v, c, h1, h2, h3⟩ := pop_ok o hm φ ρ h w r R
    exact .inl ⟨c, w, h1, v, h, φ, h3, h2, R, (Ext.refl _ _ _).from hn, fun _ _ _ _ a => a⟩
  · obtain ⟨v, c, h1, h2, h3⟩ := lop_ok o hm r R
    exact .inl ⟨c, w, h1, v, h, φ, h3, h2, R, (Ext.refl _ _ _).from hn, fun _ _ _ _ a => a⟩
  · rename_i hc
    obtain ⟨i1, i2, i3⟩ := hid hc
    obtain ⟨c, w', e1, v, h', φ', e2, e3, e4, e5, e6⟩ := aop_ok o hm φ ρ w r R i2 i3
    exact .inl ⟨c, w', e1, v, h', φ', e2, e3, e4, e5 n0 i1, fun i _ _ hne hi u => by rw [e6 i u (hne hc)]; exact hi u⟩
  · exact (fop_ok hcf o hm hg hρ r R).mono fun c w' ⟨v, h', φ', e1, e2, e3, X⟩ => ⟨v, h', φ', e1, e2, e3, X.from hn, fun i hi hb _ ha u => by rw [(X.dead i hi hb).2 u]; exact ha u⟩


def boolOf (v : Value) : Option Bool := match v with | .bool b => some b | _ => none

theorem guardT_true {x : V} {h : H} {f : KV → Bool} {k : KV} (hm : guardT x h f k = true) : (x = .t true ∧ f k = true) ∨ ((x = .t false ∨ ∃ a b, x = .x .undef a b) ∧ k V.u h = true) := by
  cases x with
  | t b => cases b with
    | true => exact .inl ⟨rfl, hm⟩
    | false => exact .inr ⟨.inl rfl, hm⟩
  | x g a b => cases g <;> first | exact Bool.noConfusion (show false = true from hm) | exact .inr ⟨.inr ⟨_, _, rfl⟩, hm⟩
  | _ => exact Bool.noConfusion (show false = true from hm)
theorem guardF_true {x : V} {h : H} {f : KV → Bool} {k : KV} (hm : guardF x h f k = true) : (x = .t false ∧ f k = true) ∨ ((x = .t true ∨ ∃ a b, x = .x .undef a b) ∧ k V.u h = true) := by
  cases x with
  | t b => cases b with
    | false => exact .inl ⟨rfl, hm⟩
    | true => exact .inr ⟨.inl rfl, hm⟩
  | x g a b => cases g <;> first | exact Bool.noConfusion (show false = true from hm) | exact .inr ⟨.inr ⟨_, _, rfl⟩, hm⟩
  | _ => exact Bool.noConfusion (show false = true from hm)

theorem eval_func (a : Act) (f : Nat) : a.eval (.func f) = .func (.func f) #[] #[] := rfl

/-- the guard of an operation: what it is found to hold -/
theorem yielded_of {ops : Array Oper} {tmps : Array Value} {j : Nat} {r : Oper} {g : Nat} {v : Value} (hq : ops[j]? = some r) (hqd : r.dst = some g) (hv : tmps[g]? = some v) : yielded ops tmps j = boolOf v := by
  unfold yielded
  rw [hq]; simp only [Option.bind_some, hqd, hv]
  cases v <;> rfl


theorem goD_ok (hcf : CallS P G cf) {id i n0 : Nat} {ρ : TL} {e : L8} {h : H} {k : KV} (hm : goD P G cf N ops id i ρ e h k = true) {φ : Phi} {w : World} {a : Act} (hg : GlobOk P G φ) (r : RE φ N ρ e a) (R : Rel φ h w) (hn : n0 ≤ h.next)
    (hid : clD P ops i = .a → n0 ≤ id ∧ id < h.next ∧ ∀ u, φ id u = none) (Q : Exit → Act → World → Prop) (K : Act → World → Prop)
    (hnext : ∀ c w', DPost k φ n0 id (clD P ops i = .a) h w c w' → K (a.put (dstR ops i) c) w') : wpOp P ops Q i K a w := by
  unfold goD at hm
  unfold wpOp
  cases ho : ops[i]? with
  | none => rw [ho] at hm; simp at hm
  | some o =>
    rw [ho] at hm
    have hdst : dstR ops i = o.dst := by unfold dstR; rw [ho]
    rw [hdst] at hnext
    rw [clD_of ho] at hid hnext
    simp only at hm ⊢
    cases hgd : o.guard with
    | none =>
      rw [hgd] at hm
      rw [if_pos (by simp [Region.wanted, hgd])]
      exact .inl ((vopD_ok hcf o hm hg (eval_func a) (opr_ok hg r) R hn hid).wp hnext)
    | some jb =>
      obtain ⟨j, b⟩ := jb
      rw [hgd] at hm
      simp only at hm
      cases hq : ops[j]? with
      | none => rw [hq] at hm; simp at hm
      | some q =>
        rw [hq] at hm
        simp only at hm
        cases hqd : q.dst with
        | none => rw [hqd] at hm; simp at hm
        | some g =>
          rw [hqd] at hm
          simp only at hm
          by_cases hgN : g < N.n
          case neg => rw [if_neg hgN] at hm; simp at hm
          rw [if_pos hgN] at hm
          obtain ⟨v, hv, rv, _⟩ := r.at_ g hgN
          have hy := yielded_of (ops := ops) hq hqd hv
          have yes : v = .bool b → vopD P cf (opr P G N ρ e) id o.op h k = true → (if Region.wanted o (yielded ops a.tmps) = true then o.wp P a w K Q ∨ o.asks P a w ∧ LetsOut Q else K (a.put o.dst undef) w) := fun hvb hk => by
            rw [if_pos (by unfold Region.wanted; rw [hgd]; show (yielded ops a.tmps j == some b) = true; rw [hy, hvb]; simp [boolOf])]
            exact .inl ((vopD_ok hcf o hk hg (eval_func a) (opr_ok hg r) R hn hid).wp hnext)
          have no : (∀ t, v = .bool t → t = !b) → k V.u h = true → (if Region.wanted o (yielded ops a.tmps) = true then o.wp P a w K Q ∨ o.asks P a w ∧ LetsOut Q else K (a.put o.dst undef) w) := fun hne hk => by
            have : Region.wanted o (yielded ops a.tmps) = false := by
              unfold Region.wanted
              rw [hgd]
              show (yielded ops a.tmps j == some b) = false
              rw [hy]
              cases v with
              | bool z =>
                have := hne z rfl
                subst this
                cases b <;> rfl
              | _ => rfl
            rw [if_neg (by rw [this]; simp)]
            exact hnext undef w ⟨V.u, h, φ, hk, .undef, R, (Ext.refl _ _ _).from hn, fun _ _ _ _ a => a⟩
          cases b with
          | true =>
            rw [if_pos rfl] at hm
            rcases guardT_true hm with ⟨e1, hk⟩ | ⟨e1 | ⟨_, _, e1⟩, hk⟩
            · rw [e1] at rv; exact yes rv.inv_t hk
            · rw [e1] at rv; exact no (fun t ht => by rw [rv.inv_t] at ht; cases ht; rfl) hk
            · rw [e1] at rv; cases rv; exact no (fun t ht => by simp at ht) hk
          | false =>
            rw [if_neg (by simp)] at hm
            rcases guardF_true hm with ⟨e1, hk⟩ | ⟨e1 | ⟨_, _, e1⟩, hk⟩
            · rw [e1] at rv; exact yes rv.inv_t hk
            · rw [e1] at rv; exact no (fun t ht => by rw [rv.inv_t] at ht; cases ht; rfl) hk
            · rw [e1] at rv; cases rv; exact no (fun t ht => by simp at ht) hk

/-- all of a region's orders -/
theorem wpAny_ok (hcf : CallS P G cf) (hf : ∀ r, CallFrm r cf) {Q : Exit → Act → World → Prop} {QK : TL → L8 → H → Prop} (hQK : Resp N QK) {L0 : List Od} (hL0 : ∀ x, x ∈ L0 → ∀ j, Nat.testBit x.m j = true → ∃ i, i ∈ afterB ops x.i ∧ (j = i ∨ Nat.testBit (maskIn L0 i) j = true))
    (hcov : ∀ j, j < ops.size → ∃ x, x ∈ L0 ∧ x.i = j) (hinj : ∀ x y, x ∈ L0 → y ∈ L0 → x.i = y.i → x = y) {n0 : Nat} (hb : n0 ≤ b) :
    ∀ (fuel : Nat) {L : List Od} {S : Od → Prop} {listed : Array Bool} {ρ : TL} {e : L8} {h : H} {φ : Phi} {w : World} {a : Act}, L.length = fuel → L.Sublist L0 → Sta P ops L → Suc P G cf N ops b QK L S ρ e h → listed.size = ops.size →
      (∀ j, j < ops.size → (listed.getD j true = false ↔ ∃ x, x ∈ L ∧ x.i = j)) → (∀ x, x ∈ L0 → x ∉ L → ∀ j, Nat.testBit x.m j = true → ∀ z, z ∈ L → z.i ≠ j) → Fit P ops S L →
      (∀ x, x ∈ L → clD P ops x.i = .a → Kept (Nat.add b x.r) h ∧ ∀ u, φ (Nat.add b x.r) u = none) → (∀ x y, x ∈ L → y ∈ L → clD P ops x.i = .a → clD P ops y.i = .a → x.r ≠ y.r → cl (Nat.add b x.r) ≠ cl (Nat.add b y.r)) → n0 ≤ h.next →
      GlobOk P G φ → RE φ N ρ e a → Rel φ h w → (∀ ρ' e' h' φ' a' w', QK ρ' e' h' → RE φ' N ρ' e' a' → Rel φ' h' w' → Ext φ ⟨n0, h.tr⟩ w φ' h' w' → a'.defers = a.defers → Q .normal a' w') →
      wpAny P .any ops Q fuel listed a w := by
  intro fuel
  induction fuel with
  | zero =>
    intro L S listed ρ e h φ w a hlen hsub hst s hsz hl hm hF hA hB hn hg r R hQ
    have : L = [] := List.length_eq_zero_iff.1 hlen
    subst this
    unfold wpAny
    refine ⟨?_, hQ ρ e h φ a w s r R ((Ext.refl _ _ _).from hn) rfl⟩
    refine List.eq_nil_iff_forall_not_mem.2 fun i hi => ?_
    obtain ⟨h1, h2, _⟩ := mem_ready.1 hi
    obtain ⟨x, hx, _⟩ := (hl i h1).1 h2
    simp at hx
  | succ fuel ih =>
    intro L S listed ρ e h φ w a hlen hsub hst s hsz hl hm hF hA hB hn hg r R hQ
    have hN := r.le
    unfold wpAny
    have lst : ∀ j, j < ops.size → ((∀ z, z ∈ L → z.i ≠ j) ↔ listed.getD j false = true) := fun j hj => by
      have h1 : listed.getD j true = listed.getD j false := by
        simp [Array.getD, hsz, hj]
      rw [← h1]
      have := hl j hj
      constructor
      · intro hz
        cases hv : listed.getD j true with
        | true => rfl
        | false => obtain ⟨x, hx, e1⟩ := this.1 hv; exact absurd e1 (hz x hx)
      · intro hv z hz e1
        have := this.2 ⟨z, hz, e1⟩
        rw [hv] at this; simp at this
    constructor
    · intro hr
      exfalso
      cases L with
      | nil => simp at hlen
      | cons x rest =>
        have hx := hst.one x (by simp)
        have : x.i ∈ Region.ready .any ops listed := by
          refine mem_ready.2 ⟨hx.2.1, (hl x.i hx.2.1).2 ⟨x, by simp, rfl⟩, fun j hj => ?_⟩
          obtain ⟨q1, q2⟩ := hx.2.2 j hj
          refine (lst j q1).1 fun z hz => ?_
          rcases List.mem_cons.1 hz with rfl | hz
          · exact fun e => q2 e.symm
          · exact fun e => ((List.pairwise_cons.1 hst.pw).1 z hz).2.2 j hj e.symm
        rw [hr] at this; simp at this
    · intro i hi
      obtain ⟨h1, h2, h3⟩ := mem_ready.1 hi
      obtain ⟨y, hy, rfl⟩ := (hl i h1).1 h2
      obtain ⟨A, rr, rfl⟩ := List.append_of_mem hy
      have hy0 : y ∈ L0 := hsub.subset hy
      -- nothing that is left must stand ahead of y
      have free : ∀ z, z ∈ A ++ y :: rr → Nat.testBit y.m z.i = false := fun z hz => by
        cases hbit : Nat.testBit y.m z.i with
        | false => rfl
        | true =>
          exfalso
          obtain ⟨j, hj, hj2⟩ := hL0 y hy0 z.i hbit
          have hjs := (hst.one y hy).2.2 j hj
          have hlj := (lst j hjs.1).2 (h3 j hj)
          rcases hj2 with rfl | hj2
          · exact hlj z hz rfl
          · obtain ⟨x, hx, hxi, hxb⟩ := maskIn_some hj2
            have hxL : x ∉ A ++ y :: rr := fun k => hlj x k hxi
            exact hm x hx hxL z.i hxb z hz rfl
      have hpw := List.pairwise_append.1 hst.pw
      have hA1 : ∀ x, x ∈ A → PairOk P ops x y ∧ PairAll P ops x y := fun x hx => by
        have := hpw.2.2 x hx y (by simp)
        refine ⟨?_, this.1⟩
        rcases this.2.1 with k | k
        · rw [free x (by simp [hx])] at k; simp at k
        · exact k
      have hr1 : ∀ z, z ∈ rr → PairAll P ops y z := fun z hz => ((List.pairwise_cons.1 hpw.2.1).1 z hz).1
      have hpa : (A ++ y :: rr).Pairwise (PairAll P ops) := hst.pw.imp fun h => h.1
      have hyo := (hst.one y hy).1
      have s2 := Suc.front hf hN hQK hyo (fun x hx => (hA1 x hx).1) hpa (fun x hx => (hst.one x (by simp [hx])).1)
        (fun x hx c1 c2 => hB x y (by simp [hx]) hy c1 c2 ((hA1 x hx).2.rr c1 c2)) hF (fun hc => (hA y hy hc).1) s
      obtain ⟨v, h', g1, o1, c1, s3⟩ := s2
      let k : KV := fun u h2 => @decide (u = v ∧ h2 = h') (Classical.propDecidable _)
      have hk : goD P G cf N ops (Nat.add b y.r) y.i ρ e h k = true := by rw [g1 k]; simp [k]
      have sub' : (A ++ rr).Sublist (A ++ y :: rr) := List.Sublist.append_left (List.sublist_cons_self y rr) A
      refine goD_ok hcf hk hg r R hn (fun hc => ⟨Nat.le_trans hb (Nat.le_add_right _ _), (hA y hy hc).1.next, (hA y hy hc).2⟩) Q _ ?_
      rintro c w' ⟨u, h2, φ', hk2, rv, R', X, hφ⟩
      obtain ⟨rfl, rfl⟩ : u = v ∧ h2 = h' := by simpa [k] using hk2
      have hput : ∃ ρ' e', ρ' = pρ (dstR ops y.i) u ρ ∧ e' = pe N (dstR ops y.i) u e ∧ RE φ' N ρ' e' (a.put (dstR ops y.i) c) := by
        have hp : put N (dstR ops y.i) u ρ e (fun ρ' e' => @decide (ρ' = pρ (dstR ops y.i) u ρ ∧ e' = pe N (dstR ops y.i) u e) (Classical.propDecidable _)) = true := by
          rw [put_eq hN o1]; simp
        obtain ⟨ρ', e', q1, q2⟩ := (r.mono X.le).put hp rv
        have q1 : ρ' = pρ (dstR ops y.i) u ρ ∧ e' = pe N (dstR ops y.i) u e := by simpa using q1
        exact ⟨ρ', e', q1.1, q1.2, q2⟩
      obtain ⟨ρ', e', rfl, rfl, r'⟩ := hput
      have yne : ∀ z, z ∈ A ++ rr → z.i ≠ y.i := fun z hz => by
        rcases List.mem_append.1 hz with k | k
        · exact (hA1 z k).2.ne
        · exact fun e => (hr1 z k).ne e.symm
      refine ih (by simp at hlen ⊢; omega) (sub'.trans hsub) (hst.sub sub') s3 (by simp [hsz]) (fun j hj => ?_) (fun x hx hxL j hj z hz => ?_) (hF.pick hyo hA1 hr1) (fun x hx hc => ?_)
        (fun x z hx hz => hB x z (sub'.subset hx) (sub'.subset hz)) X.next (hg.mono X.le) r' R' (fun ρ2 e2 h3 φ2 a2 w2 q r2 R2 X2 hd => hQ ρ2 e2 h3 φ2 a2 w2 q r2 R2 ?_ (hd.trans ?_))
      · by_cases hjy : j = y.i
        · subst hjy
          constructor
          · intro hv
            simp [Array.getD, hsz, h1] at hv
          · rintro ⟨x, hx, e1⟩; exact absurd e1 (yne x hx)
        · have e1 : (listed.setIfInBounds y.i true).getD j true = listed.getD j true := by
            simp only [Array.getD_eq_getD_getElem?]
            rw [Array.getElem?_setIfInBounds_ne (fun k => hjy k.symm)]
          rw [e1, hl j hj]
          constructor
          · rintro ⟨x, hx, e2⟩
            refine ⟨x, ?_, e2⟩
            rcases List.mem_append.1 hx with k | k
            · exact List.mem_append_left _ k
            · rcases List.mem_cons.1 k with rfl | k
              · exact absurd e2.symm hjy
              · exact List.mem_append_right _ k
          · rintro ⟨x, hx, e2⟩; exact ⟨x, sub'.subset hx, e2⟩
      · by_cases hxy : x ∈ A ++ y :: rr
        · have : x = y := by
            rcases List.mem_append.1 hxy with k | k
            · exact absurd (List.mem_append_left _ k) hxL
            · rcases List.mem_cons.1 k with k | k
              · exact k
              · exact absurd (List.mem_append_right _ k) hxL
          subst this
          intro e1
          have := free z (sub'.subset hz)
          rw [e1, hj] at this; simp at this
        · exact hm x hx hxy j hj z (sub'.subset hz)
      · obtain ⟨q1, q2⟩ := hA x (sub'.subset hx) hc
        have hne : clD P ops y.i = .a → cl (Nat.add b y.r) ≠ cl (Nat.add b x.r) := fun hcy => by
          rcases List.mem_append.1 hx with k | k
          · exact fun e => hB x y (sub'.subset hx) hy hc hcy ((hA1 x k).2.rr hc hcy) e.symm
          · exact hB y x hy (sub'.subset hx) hcy hc ((hr1 x k).rr hcy hc)
        refine ⟨(go_frm (hf _) hne q1 g1).1, hφ _ q1.next q1.nb (fun hcy e1 => hne hcy (by rw [e1])) q2⟩
      · exact (Ext.trans (t' := ⟨n0, h2.tr⟩) ⟨X.le, X.os, X.tape, X.output, X.size, Nat.le_refl _, X.own, X.vis, X.frame, X.dead⟩ X2)
      · cases dstR ops y.i <;> rfl

/-- a region that may run in several orders, run in the order that is laid down for it -/
theorem draw_ok (hmix : P.follows .mixedOrders = true) (hcf : CallS P G cf) (hr : CallRet cf) (hf : ∀ r, CallFrm r cf) {n : Nat} {L : List Od} (hchk : chkR P ops L = true) (hok : L.all (okD P ops n) = true) {rid : Nat} {ρ : TL} {e : L8} {h : H} {K : KT}
    (hm : (resv n h fun b h' => runD P G cf N ops b L ρ e h' K) = true) {φ : Phi} {w : World} {a : Act} (hg : GlobOk P G φ) (r : RE φ N ρ e a) (R : Rel φ h w) (Q : Exit → Act → World → Prop)
    (hQ : ∀ ρ' e' h' φ' a' w', K ρ' e' h' = true → RE φ' N ρ' e' a' → Rel φ' h' w' → Ext φ h w φ' h' w' → a'.defers = a.defers → Q .normal a' w') : (Code.region rid ops true).wp P Q a w := by
  simp only [chkR, Bool.and_eq_true, List.all_eq_true] at hchk
  obtain ⟨⟨⟨c1, c2⟩, c3⟩, c4⟩ := hchk
  have sta := restB_true c2
  obtain ⟨e1, hm⟩ := both_true hm
  have e1 : h.next + n ≤ 262144 := ble_true e1
  have hQK : Resp N (fun ρ e h => ∃ ρ0, Eqv N ρ0 ρ ∧ K ρ0 e h = true) := fun ρ ρ' e h hr ⟨ρ0, h1, h2⟩ => ⟨ρ0, fun t e => (h1 t e).trans (hr t e), h2⟩
  have s := runD_suc (S := fun _ => False) hr r.le hm
  have inj : ∀ {l : List Od}, l.Pairwise (fun x y => x.i ≠ y.i) → ∀ x y, x ∈ l → y ∈ l → x.i = y.i → x = y := by
    intro l
    induction l with
    | nil => intro _ x y hx; simp at hx
    | cons z t iht =>
      intro hp x y hx hy e
      obtain ⟨p1, p2⟩ := List.pairwise_cons.1 hp
      rcases List.mem_cons.1 hx with hx1 | hx1 <;> rcases List.mem_cons.1 hy with hy1 | hy1
      · rw [hx1, hy1]
      · exact absurd (hx1 ▸ e) (p1 y hy1)
      · exact absurd (hy1 ▸ e.symm) (p1 x hx1)
      · exact iht p2 x y hx1 hy1 e
  have hlt : ∀ x, x ∈ L → clD P ops x.i = .a → x.r < n := fun x hx hc => by
    have := List.all_eq_true.1 hok x hx
    unfold okD at this
    rw [Bool.and_eq_true] at this
    have h1 := this.1
    rw [hc] at h1
    exact ble_true h1
  have wd : Rel φ h { w with drawn := w.drawn + 1 } := ⟨R.next, R.dom, R.blk, R.apart⟩
  refine wp_region_any hmix ?_
  refine wpAny_ok (b := h.next) (n0 := h.next) hcf hf hQK (L0 := L) (fun x hx j hj => ?_) (fun j hj => ?_) (inj (sta.pw.imp fun h => h.1.ne)) (Nat.le_refl _) ops.size (L := L) (S := fun _ => False) (beq_true c1) (List.Sublist.refl _) sta s (by simp) (fun j hj => ?_) (fun x hx hn => absurd hx hn)
    (fun l hl => hl.elim) (fun x hx hc => ?_) (fun x y hx hy c1 c2 hne => ?_) (by show h.next ≤ h.next + n; omega) hg r (wd.resv e1) (fun ρ' e' h' φ' a' w' ⟨ρ0, q1, q2⟩ r' R' X hd => hQ ρ0 e' h' φ' a' w' q2 ?_ R' ?_ hd)
  · have := c4 x hx
    rcases orL_testBit (m := maskIn L) (j := j) (l := afterB ops x.i) (n := 0) (by rw [← beq_true this]; exact hj) with k | k
    · simp at k
    · exact k
  · have := c3 j (by simpa using hj)
    simp only [List.any_eq_true] at this
    obtain ⟨x, hx, e⟩ := this
    exact ⟨x, hx, beq_true e⟩
  · have := c3 j (by simpa using hj)
    simp only [List.any_eq_true] at this
    obtain ⟨x, hx, e⟩ := this
    simp only [Array.getD, Array.size_replicate, hj, dif_pos]
    simp only [Array.getInternal_eq_getElem, Array.getElem_replicate, true_iff]
    exact ⟨x, hx, beq_true e⟩
  · have hl := hlt x hx hc
    have none : ∀ u, φ (h.next + x.r) u = none := fun u => by
      cases q : φ (h.next + x.r) u with
      | none => rfl
      | some m => have := (R.dom _ u m q).1; omega
    refine ⟨⟨by show h.next + x.r < 262144; omega, by show h.next + x.r < h.next + n; omega, ?_⟩, none⟩
    have := R.blk (h.next + x.r) (by omega)
    show hget (h.next + x.r) h.tr = _
    cases q : hget (h.next + x.r) h.tr with
    | nb => rfl
    | mp _ =>
      rw [q] at this
      obtain ⟨m, _, _, e2, _⟩ := this
      rw [none] at e2; simp at e2
    | it _ _ _ =>
      rw [q] at this
      obtain ⟨m, _, e2, _⟩ := this
      rw [none] at e2; simp at e2
    | pin _ _ _ =>
      rw [q] at this
      obtain ⟨m, _, _, e2, _⟩ := this
      rw [none] at e2; simp at e2
    | bk c size ver frz elem ex own =>
      rw [q] at this
      obtain ⟨m, _, _, e2, _⟩ := this
      rw [none] at e2; simp at e2
  · have h1 := hlt x hx c1; have h2 := hlt y hy c2
    show cl (h.next + x.r) ≠ cl (h.next + y.r)
    rw [cl_id (by omega), cl_id (by omega)]; omega
  · exact ⟨r'.size, r'.le, fun t ht => by rw [q1 t e']; exact r'.at_ t ht⟩
  · exact ⟨X.le, X.os, X.tape, X.output, X.size, X.next, X.own, X.vis, X.frame, X.dead⟩

end Go.Bvm
