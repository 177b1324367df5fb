/- The abstract machine: a region that may run in several orders answers alike in each of them. Conditions: none. -/
import Derived.Test.YtacpnpdggbfkgaaDoorBvmFrm
import Derived.Orders
set_option linter.unusedVariables false
namespace Go.Bvm
variable {P : Program} {G : Nat → Bool} {N : Fr} {cf : CallF} {ops : Array Oper} {b : Nat}

theorem eqV_true : ∀ {x y : V}, eqV x y = true → x = y := by
  have nb : ∀ {a b : Nat}, Nat.beq a b = true → a = b := fun h => beq_true h
  intro x
  induction x with
  | w n => intro y h; cases y <;> first | exact Bool.noConfusion (show false = true from h) | (have := nb (show Nat.beq n _ = true from h); subst this; rfl)
  | y n => intro y h; cases y <;> first | exact Bool.noConfusion (show false = true from h) | (have := nb (show Nat.beq n _ = true from h); subst this; rfl)
  | t n => intro y h; cases y <;> first | exact Bool.noConfusion (show false = true from h) | skip
           rename_i u; cases n <;> cases u <;> first | rfl | exact Bool.noConfusion (show false = true from h)
  | s l n =>
    intro y h; cases y <;> first | exact Bool.noConfusion (show false = true from h) | skip
    obtain ⟨h1, h2⟩ := both_true (show both _ _ = true from h)
    rw [nb h1, nb h2]
  | p i o l v =>
    intro y h; cases y <;> first | exact Bool.noConfusion (show false = true from h) | skip
    obtain ⟨h1, h2⟩ := both_true (show both _ _ = true from h)
    obtain ⟨h2, h3⟩ := both_true h2
    obtain ⟨h3, h4⟩ := both_true h3
    rw [nb h1, nb h2, nb h3, nb h4]
  | sl i o l v z =>
    intro y h; cases y with
    | sl =>
      obtain ⟨h1, h2⟩ := both_true (show both _ _ = true from h)
      obtain ⟨h2, h3⟩ := both_true h2
      obtain ⟨h3, h4⟩ := both_true h3
      obtain ⟨h4, h5⟩ := both_true h4
      rw [nb h1, nb h2, nb h3, nb h4, nb h5]
    | x g a b => cases g <;> exact Bool.noConfusion (show false = true from h)
    | _ => exact Bool.noConfusion (show false = true from h)
  | x g a b iha ihb =>
    intro y h; cases y <;> first | exact Bool.noConfusion (show false = true from h) | skip
    rename_i g' a' b'
    obtain ⟨h1, h2⟩ := both_true (show both _ _ = true from h)
    obtain ⟨h2, h3⟩ := both_true h2
    rw [iha h2, ihb h3]
    have : g = g' := by
      obtain ⟨e1, e2⟩ := both_true h1
      obtain ⟨e2, e3⟩ := both_true e2
      obtain ⟨e3, e4⟩ := both_true e3
      have e1 := nb e1; have e2 := nb e2; have e3 := of_decide_eq_true e3; have e4 := of_decide_eq_true e4
      cases g <;> cases g' <;> first | rfl | (simp [tagC] at e1; done) | skip
      · simp [tgK, tgN] at e3 e4; rw [e3, e4]
      · simp [tagA] at e2; rw [e2]
      · simp [tagA] at e2; rw [e2]
      · simp [tagA] at e2; rw [e2]
    rw [this]

/-! an operation's answer hangs on what it looks at -/
theorem parts_congr {q q' : Operand → Option V} {place : Nat → Option (Nat × TypeId)} : ∀ (ps : List (Nat × Operand)) (l : V), (∀ x, x ∈ ps.map (·.2) → q x = q' x) → parts P q place ps l = parts P q' place ps l
  | [], l, h => rfl
  | (i, x) :: r, l, h => by
    funext k
    have h1 : q x = q' x := h x (by simp)
    have h2 : ∀ l, parts P q place r l = parts P q' place r l := fun l => parts_congr r l fun y hy => h y (by simp at hy ⊢; exact .inr hy)
    show (match place i, q x with | some (off, t), some g => if hasT P t then part off (oneT P t) (sizeT P t) g l fun l' => parts P q place r l' k else false | _, _ => false) =
      (match place i, q' x with | some (off, t), some g => if hasT P t then part off (oneT P t) (sizeT P t) g l fun l' => parts P q' place r l' k else false | _, _ => false)
    simp only [h1, h2]
theorem oprs_congr {q q' : Operand → Option V} : ∀ (xs : List Operand), (∀ x, x ∈ xs → q x = q' x) → oprs q xs = oprs q' xs
  | [], h => rfl
  | x :: r, h => by
    have h1 : q x = q' x := h x (by simp)
    have h2 : oprs q r = oprs q' r := oprs_congr r fun y hy => h y (by simp [hy])
    show (match q x, oprs q r with | some a, some b => some (V.x .cons a b) | _, _ => none) = (match q' x, oprs q' r with | some a, some b => some (V.x .cons a b) | _, _ => none)
    rw [h1, h2]
theorem bdo_congr {q q' : Operand → Option V} {x : Option Operand} {f : Option V → Bool} (h : ∀ y, x = some y → q y = q' y) : bdo q x f = bdo q' x f := by
  unfold bdo
  cases x with
  | none => rfl
  | some y => dsimp only; rw [h y rfl]

theorem vopD_congr {q q' : Operand → Option V} (id : Nat) (o : Op) (h : ∀ x, x ∈ o.operands → q x = q' x) : vopD P cf q id o = vopD P cf q' id o := by
  funext hh k
  cases o with
  | call c =>
    obtain ⟨f, xs, ts⟩ := c
    have hm : ∀ x, x ∈ xs → q x = q' x := fun x hx => h x (by simp only [Op.operands, Call.operands, Array.mem_append]; exact .inr hx)
    have hxs : oprs q xs.toList = oprs q' xs.toList := oprs_congr _ fun x hx => hm x (by simpa using hx)
    have h1 : ∀ x y, xs.toList = [x, y] → q x = q' x ∧ q y = q' y := fun x y e => by
      have hx : xs = #[x, y] := by apply Array.ext'; simpa using e
      exact ⟨hm x (by simp [hx]), hm y (by simp [hx])⟩
    have h2 : ∀ x, xs.toList = [x] → q x = q' x := fun x e => by
      have hx : xs = #[x] := by apply Array.ext'; simpa using e
      exact hm x (by simp [hx])
    cases f with
    | value f =>
      have hf : q f = q' f := h f (by simp only [Op.operands, Call.operands, Array.mem_append]; exact .inl (by simp))
      cases f with
      | func f => simp only [vopD, fop, hxs]
      | _ => simp only [vopD, fop, hxs, un, hf]
    | invoke r m => simp only [vopD, fop]
    | builtin bi0 =>
      cases bi0 <;> try (simp only [vopD, pop, fop]; done)
      case append =>
        simp only [vopD, fop]
        split
        · rename_i x y e
          simp only [appOp, bi, h1 x y e]
        · rfl
      case unsafeString =>
        simp only [vopD, fop]
        split
        · rename_i x y t u e _
          simp only [bi, h1 x y e]
        · rfl
      all_goals
        simp only [vopD, pop]
        split <;> first | rfl | (rename_i e1 e; simp only [un, h2 _ e1]; done) | (rename_i e1 e; simp only [bi, h1 _ _ e1]; done) | (rename_i e; simp only [bi, h1 _ _ e]; done) | (rename_i e; simp only [un, h2 _ e]; done)
  | move x => simp only [vopD, pop, un, h x (by simp [Op.operands])]
  | assign x => simp only [vopD, pop, un, h x (by simp [Op.operands])]
  | pick c x y => simp only [vopD, pop, un, bi, h c (by simp [Op.operands]), h x (by simp [Op.operands]), h y (by simp [Op.operands])]
  | load t x => simp only [vopD, lop, un, h x (by simp [Op.operands])]
  | store t x y => simp only [vopD, fop, bi, h x (by simp [Op.operands]), h y (by simp [Op.operands])]
  | nilCheck x => simp only [vopD, pop, un, h x (by simp [Op.operands])]
  | binOp op t x y u => simp only [vopD, pop, bi, h x (by simp [Op.operands]), h y (by simp [Op.operands])]
  | unOp op t x => cases op <;> simp only [vopD, pop, un, h x (by simp [Op.operands])]
  | convert s t x => simp only [vopD, pop, lop, aop, fop, un, h x (by simp [Op.operands])]
  | slice t x lo hi mx =>
    have hx : q x = q' x := h x (by simp [Op.operands])
    have hl : ∀ f, bdo q lo f = bdo q' lo f := fun f => bdo_congr fun y e => h y (by simp [Op.operands, e])
    have hh : ∀ f, bdo q hi f = bdo q' hi f := fun f => bdo_congr fun y e => h y (by simp [Op.operands, e])
    cases mx with
    | some m => simp only [vopD, pop]
    | none =>
      show (match P.underlying t with
        | some (.array n e) => if hasT P e then bdo q lo fun l => bdo q hi fun u => un q x fun a => sarr (sizeT P e) n l u a _ else false
        | some .string => bdo q lo fun l => bdo q hi fun u => un q x fun a => sstr l u a _
        | some (.slice e) => if hasT P e then bdo q lo fun l => bdo q hi fun u => un q x fun a => ssli (sizeT P e) l u a _ else false
        | _ => false) = (match P.underlying t with
        | some (.array n e) => if hasT P e then bdo q' lo fun l => bdo q' hi fun u => un q' x fun a => sarr (sizeT P e) n l u a _ else false
        | some .string => bdo q' lo fun l => bdo q' hi fun u => un q' x fun a => sstr l u a _
        | some (.slice e) => if hasT P e then bdo q' lo fun l => bdo q' hi fun u => un q' x fun a => ssli (sizeT P e) l u a _ else false
        | _ => false)
      have hu : ∀ f, un q x f = un q' x f := fun f => by simp only [un, hx]
      split
      · simp only [hl]; congr 1; congr 1; funext l; rw [hh]; congr 1; funext u; exact hu _
      · rw [hl]; congr 1; funext l; rw [hh]; congr 1; funext u; exact hu _
      · simp only [hl]; congr 1; congr 1; funext l; rw [hh]; congr 1; funext u; exact hu _
      · rfl
  | fieldAddr s x f => simp only [vopD, pop, un, h x (by simp [Op.operands])]
  | indexAddr t x i => simp only [vopD, pop, bi, h x (by simp [Op.operands]), h i (by simp [Op.operands])]
  | index t x i => simp only [vopD, pop, bi, h x (by simp [Op.operands]), h i (by simp [Op.operands])]
  | makeSlice t x y => simp only [vopD, aop, bi, h x (by simp [Op.operands]), h y (by simp [Op.operands])]
  | field t x f => simp only [vopD, pop, un, h x (by simp [Op.operands])]
  | build t ps =>
    have hp : ∀ place l, parts P q place ps.toList l = parts P q' place ps.toList l := fun place l => parts_congr _ _ fun x hx => h x (by simpa [Op.operands] using hx)
    simp only [vopD, pop, hp]
  | buildSlice t n ps =>
    have hp : ∀ place l, parts P q place ps.toList l = parts P q' place ps.toList l := fun place l => parts_congr _ _ fun x hx => h x (by simpa [Op.operands] using hx)
    simp only [vopD, aop, hp]
  | makeFunc f xs ys =>
    have h1 : oprs q xs.toList = oprs q' xs.toList := oprs_congr _ fun x hx => h x (by simp [Op.operands] at hx ⊢; exact .inl hx)
    have h2 : oprs q ys.toList = oprs q' ys.toList := oprs_congr _ fun x hx => h x (by simp [Op.operands] at hx ⊢; exact .inr hx)
    cases f <;> simp only [vopD, pop, h1, h2]
  | makeInterface t x => simp only [vopD, pop, un, h x (by simp [Op.operands])]
  | extract x i => simp only [vopD, pop, un, h x (by simp [Op.operands])]
  | box t x => simp only [vopD, aop, un, h x (by simp [Op.operands])]
  | alloc t => simp only [vopD, aop]
  | lookup t x i ok => simp only [vopD, lop, bi, h x (by simp [Op.operands]), h i (by simp [Op.operands])]
  | range t x => simp only [vopD, aop, un, h x (by simp [Op.operands])]
  | next x b => cases b <;> simp only [vopD, fop, un, h x (by simp [Op.operands])]
  | makeMap t r => cases r <;> simp only [vopD, aop]
  | insert t x y z => simp only [vopD, fop, un, bi, h x (by simp [Op.operands]), h y (by simp [Op.operands]), h z (by simp [Op.operands])]
  | _ => simp only [vopD, pop]

/-! one operation of a region -/
/-- its answer at a state -/
def Go1 (P : Program) (G : Nat → Bool) (cf : CallF) (N : Fr) (ops : Array Oper) (id i : Nat) (ρ : TL) (e : L8) (h : H) (v : V) (h1 : H) : Prop := ∀ k, goD P G cf N ops id i ρ e h k = k v h1
/-- what it looks at -/
def looks (ops : Array Oper) (i : Nat) : List Nat := match ops[i]? with
  | some o => (o.op.operands.toList.filterMap fun | .tmp t => some t | _ => none) ++ (match o.guard with | some (g, _) => (dstR ops g).toList | none => [])
  | none => []
/-- what is known of the places behind it, and what lasts -/
def pρ (d : Option Tmp) (v : V) (ρ : TL) : TL := match d with | none => ρ | some t => .c t v ρ
noncomputable def pe (N : Fr) (d : Option Tmp) (v : V) (e : L8) : L8 := match d with | none => e | some t => match idx N.l t with | some i => updL i v e | none => e
def okP (N : Fr) (d : Option Tmp) : Prop := ∀ t, d = some t → t < N.n

theorem put_eq (hN : N.l.length ≤ 64) {d : Option Tmp} (hd : okP N d) (v : V) (ρ : TL) (e : L8) (k : TL → L8 → Bool) : put N d v ρ e k = k (pρ d v ρ) (pe N d v e) := by
  cases d with
  | none => rfl
  | some t =>
    unfold put pρ pe
    dsimp only
    rw [if_pos (hd t rfl)]
    cases hi : idx N.l t with
    | none => rfl
    | some i => exact putL_eq _ (by have := idx_lt _ _ _ hi; omega) _ _ _
theorem put_ok {d : Option Tmp} {v : V} {ρ : TL} {e : L8} {k : TL → L8 → Bool} (h : put N d v ρ e k = true) : okP N d := by
  intro t ht; subst ht
  unfold put at h
  dsimp only at h
  split at h
  · assumption
  · simp at h

theorem getT_put (hN : N.l.length ≤ 64) {d : Option Tmp} {t : Nat} (h : d ≠ some t) (v : V) (ρ : TL) (e : L8) : getT N t (pρ d v ρ) (pe N d v e) = getT N t ρ e := by
  cases d with
  | none => rfl
  | some u =>
    have hu : t ≠ u := fun k => h (by rw [k])
    unfold pρ pe
    dsimp only
    rw [show ∀ e, getT N t (.c u v ρ) e = if u = t then v else getT N t ρ e from fun _ => rfl, if_neg (fun k => hu k.symm)]
    split
    · rename_i i hi; exact getT_upd N u v i hN hi t e ρ hu
    · rfl
theorem getT_put_same {t : Nat} (v : V) (ρ : TL) (e : L8) : getT N t (pρ (some t) v ρ) e = v := by
  show (if t = t then v else _) = v
  rw [if_pos rfl]

/-- the same is known of the places -/
def Eqv (N : Fr) (ρ ρ' : TL) : Prop := ∀ t e, getT N t ρ e = getT N t ρ' e
theorem Eqv.refl (ρ : TL) : Eqv N ρ ρ := fun _ _ => rfl
theorem Eqv.put {ρ ρ' : TL} (h : Eqv N ρ ρ') (d : Option Tmp) (v : V) : Eqv N (pρ d v ρ) (pρ d v ρ') := by
  intro t e
  cases d with
  | none => exact h t e
  | some u => show (if u = t then v else getT N t ρ e) = if u = t then v else getT N t ρ' e; rw [h t e]
theorem Eqv.swap {d d' : Option Tmp} (h : ∀ t, d = some t → d' ≠ some t) (v v' : V) (ρ : TL) : Eqv N (pρ d v (pρ d' v' ρ)) (pρ d' v' (pρ d v ρ)) := by
  intro t e
  cases d with
  | none => rfl
  | some u =>
    cases d' with
    | none => rfl
    | some u' =>
      have hne : u ≠ u' := fun k => h u rfl (by rw [k])
      show (if u = t then v else if u' = t then v' else getT N t ρ e) = if u' = t then v' else if u = t then v else getT N t ρ e
      by_cases h1 : u = t
      · rw [if_pos h1, if_neg (fun k => hne (h1.trans k.symm)), if_pos h1]
      · rw [if_neg h1, if_neg h1]
theorem pe_swap (hN : N.l.length ≤ 64) {d d' : Option Tmp} (h : ∀ t, d = some t → d' ≠ some t) (v v' : V) (e : L8) : pe N d v (pe N d' v' e) = pe N d' v' (pe N d v e) := by
  cases d with
  | none => rfl
  | some u =>
    cases d' with
    | none => rfl
    | some u' =>
      have hne : u ≠ u' := fun k => h u rfl (by rw [k])
      unfold pe
      dsimp only
      cases h1 : idx N.l u with
      | none => rfl
      | some i =>
        cases h2 : idx N.l u' with
        | none => rfl
        | some j =>
          dsimp only
          exact updL_comm (by have := idx_lt _ _ _ h1; omega) (by have := idx_lt _ _ _ h2; omega) (fun k => by subst k; exact hne (idx_inj _ _ _ _ h1 h2)) _ _ _

theorem goD_congr {i : Nat} {ρ ρ' : TL} {e e' : L8} (h : ∀ t, t ∈ looks ops i → getT N t ρ e = getT N t ρ' e') (id : Nat) : goD P G cf N ops id i ρ e = goD P G cf N ops id i ρ' e' := by
  funext hh k
  unfold goD
  unfold looks at h
  cases ho : ops[i]? with
  | none => rfl
  | some o =>
    rw [ho] at h
    dsimp only at h ⊢
    have hv : vopD P cf (opr P G N ρ e) id o.op = vopD P cf (opr P G N ρ' e') id o.op := vopD_congr id o.op fun x hx => by
      cases x with
      | tmp t =>
        have := h t (List.mem_append_left _ (List.mem_filterMap.2 ⟨.tmp t, by simpa using hx, rfl⟩))
        simp only [opr, this]
      | _ => rfl
    cases hg : o.guard with
    | none => dsimp only; rw [hv]
    | some jb =>
      obtain ⟨j, b⟩ := jb
      dsimp only
      cases hq : ops[j]? with
      | none => rfl
      | some r =>
        dsimp only
        cases hr : r.dst with
        | none => rfl
        | some g =>
          dsimp only
          have hg : getT N g ρ e = getT N g ρ' e' := h g (List.mem_append_right _ (by rw [hg]; dsimp only; unfold dstR; rw [hq]; dsimp only; rw [hr]; simp))
          rw [hv, hg]
theorem goD_eqv {ρ ρ' : TL} (h : Eqv N ρ ρ') (id i : Nat) (e : L8) : goD P G cf N ops id i ρ e = goD P G cf N ops id i ρ' e := goD_congr (fun t _ => h t e) id
theorem goD_put (hN : N.l.length ≤ 64) {i : Nat} {d : Option Tmp} (h : ∀ t, d = some t → t ∉ looks ops i) (v : V) (ρ : TL) (e : L8) (id : Nat) : goD P G cf N ops id i (pρ d v ρ) (pe N d v e) = goD P G cf N ops id i ρ e :=
  goD_congr (fun t ht => getT_put hN (fun k => h t k ht) v ρ e) id
theorem goD_id {i : Nat} (h : clD P ops i ≠ .a) (id id' : Nat) (ρ : TL) (e : L8) : goD P G cf N ops id i ρ e = goD P G cf N ops id' i ρ e := by
  funext hh k
  unfold goD
  cases ho : ops[i]? with
  | none => rfl
  | some o =>
    dsimp only
    have hv : vopD P cf (opr P G N ρ e) id o.op = vopD P cf (opr P G N ρ e) id' o.op := by
      funext hh k
      rw [clD_of ho] at h
      unfold vopD
      cases hc : clOf P o.op <;> first | rfl | exact absurd hc h
    rw [hv]

/-! by class -/
theorem goD_cases {i : Nat} {ρ : TL} {e : L8} {id : Nat} {h : H} {v : V} {h1 : H} (hg : Go1 P G cf N ops id i ρ e h v h1) :
    ∃ o, ops[i]? = some o ∧ ((∀ h', Go1 P G cf N ops id i ρ e h' v h') ∧ h1 = h ∨ (∀ h' k, goD P G cf N ops id i ρ e h' k = vopD P cf (opr P G N ρ e) id o.op h' k)) := by
  have no : ∀ {F : KV → Bool}, (∀ k, F k = false) → (∀ k : KV, F k = k v h1) → False := fun a b => by
    have := (a fun _ _ => true).symm.trans (b fun _ _ => true); simp at this
  unfold Go1 goD at hg
  unfold Go1 goD
  cases ho : ops[i]? with
  | none => rw [ho] at hg; exact (no (fun _ => rfl) hg).elim
  | some o =>
    refine ⟨o, rfl, ?_⟩
    rw [ho] at hg
    dsimp only at hg ⊢
    cases hgd : o.guard with
    | none => exact .inr fun _ _ => rfl
    | some jb =>
      obtain ⟨j, b⟩ := jb
      rw [hgd] at hg
      dsimp only at hg ⊢
      cases hq : ops[j]? with
      | none => rw [hq] at hg; exact (no (fun _ => rfl) hg).elim
      | some r =>
        rw [hq] at hg
        dsimp only at hg ⊢
        cases hr : r.dst with
        | none => rw [hr] at hg; exact (no (fun _ => rfl) hg).elim
        | some g =>
          rw [hr] at hg
          dsimp only at hg ⊢
          have skip : ∀ {F : H → KV → Bool}, (∀ h' k, F h' k = k V.u h') → (∀ k, F h k = k v h1) → (∀ h' k, F h' k = k v h') ∧ h1 = h := fun {F} a b => by
            have e1 := (a h fun x y => @decide (x = v ∧ y = h1) (Classical.propDecidable _)).symm.trans (b _)
            simp at e1
            exact ⟨fun h' k => by rw [a, e1.1], e1.2.symm⟩
          by_cases hgN : g < N.n
          case neg => simp only [if_neg hgN] at hg; exact (no (F := fun _ => false) (fun _ => rfl) hg).elim
          simp only [if_pos hgN] at hg ⊢
          cases b with
          | true =>
            simp only [↓reduceIte] at hg ⊢
            cases hx : getT N g ρ e with
            | t z =>
              simp only [hx] at hg ⊢
              cases z with
              | true => exact .inr fun h' k => rfl
              | false => exact .inl (skip (fun _ _ => rfl) hg)
            | x tg a b' =>
              simp only [hx] at hg ⊢
              cases tg <;> first
                | exact .inl (skip (fun _ _ => rfl) hg)
                | exact (no (F := fun _ => false) (fun _ => rfl) hg).elim
            | _ => simp only [hx] at hg; exact (no (F := fun _ => false) (fun _ => rfl) hg).elim
          | false =>
            simp only [Bool.false_eq_true, ↓reduceIte] at hg ⊢
            cases hx : getT N g ρ e with
            | t z =>
              simp only [hx] at hg ⊢
              cases z with
              | false => exact .inr fun h' k => rfl
              | true => exact .inl (skip (fun _ _ => rfl) hg)
            | x tg a b' =>
              simp only [hx] at hg ⊢
              cases tg <;> first
                | exact .inl (skip (fun _ _ => rfl) hg)
                | exact (no (F := fun _ => false) (fun _ => rfl) hg).elim
            | _ => simp only [hx] at hg; exact (no (F := fun _ => false) (fun _ => rfl) hg).elim

theorem ret_fun {F : KV → Bool} {v v' : V} {h h' : H} (a : ∀ k, F k = k v h) (b : ∀ k, F k = k v' h') : v = v' ∧ h = h' := by
  have e1 := (a fun x y => @decide (x = v ∧ y = h) (Classical.propDecidable _)).symm.trans (b _)
  simp at e1
  exact ⟨e1.1.symm, e1.2.symm⟩
theorem ret_no {F : KV → Bool} {v : V} {h : H} (a : ∀ k, F k = false) (b : ∀ k : KV, F k = k v h) : False := by
  have := (a fun _ _ => true).symm.trans (b fun _ _ => true); simp at this

theorem go_p {i : Nat} {ρ : TL} {e : L8} {id : Nat} {h : H} {v : V} {h1 : H} (hc : clD P ops i = .p) (hg : Go1 P G cf N ops id i ρ e h v h1) : h1 = h ∧ ∀ h', Go1 P G cf N ops id i ρ e h' v h' := by
  obtain ⟨o, ho, ⟨a, c⟩ | a⟩ := goD_cases hg
  · exact ⟨c, a⟩
  · rw [clD_of ho] at hc
    have hp : ∀ h' k, goD P G cf N ops id i ρ e h' k = pop P (opr P G N ρ e) o.op fun v => k v h' := fun h' k => by rw [a]; unfold vopD; rw [hc]
    rcases ret_pop (P := P) (q := opr P G N ρ e) o.op with n | ⟨u, n⟩
    · exact (ret_no (fun k => (hp h k).trans (n _)) hg).elim
    · obtain ⟨rfl, rfl⟩ := ret_fun (fun k => (hp h k).trans (n _)) hg
      exact ⟨rfl, fun h' k => (hp h' k).trans (n _)⟩
theorem go_l {i : Nat} {ρ : TL} {e : L8} {id : Nat} {h : H} {v : V} {h1 : H} (hc : clD P ops i = .l) (hg : Go1 P G cf N ops id i ρ e h v h1) : h1 = h := by
  obtain ⟨o, ho, ⟨a, c⟩ | a⟩ := goD_cases hg
  · exact c
  · rw [clD_of ho] at hc
    have hp : ∀ h' k, goD P G cf N ops id i ρ e h' k = lop P (opr P G N ρ e) o.op h' fun v => k v h' := fun h' k => by rw [a]; unfold vopD; rw [hc]
    rcases ret_lop (P := P) (q := opr P G N ρ e) o.op h with n | ⟨u, n⟩
    · exact (ret_no (fun k => (hp h k).trans (n _)) hg).elim
    · exact (ret_fun (fun k => (hp h k).trans (n _)) hg).2.symm
/-- a new block is laid, or none -/
theorem go_a {i : Nat} {ρ : TL} {e : L8} {id : Nat} {h : H} {v : V} {h1 : H} (hc : clD P ops i = .a) (hg : Go1 P G cf N ops id i ρ e h v h1) :
    h1 = h ∧ (∀ h', Go1 P G cf N ops id i ρ e h' v h') ∨ ∃ B, h1 = h.ins id B ∧ ∀ h', Go1 P G cf N ops id i ρ e h' v (h'.ins id B) := by
  obtain ⟨o, ho, ⟨a, c⟩ | a⟩ := goD_cases hg
  · exact .inl ⟨c, a⟩
  · rw [clD_of ho] at hc
    have hp : ∀ h' k, goD P G cf N ops id i ρ e h' k = aop P (opr P G N ρ e) o.op id h' k := fun h' k => by rw [a]; unfold vopD; rw [hc]
    rcases ret_aop (P := P) (q := opr P G N ρ e) o.op id with n | ⟨u, B, n⟩
    · exact (ret_no (fun k => (hp h k).trans (n _ _)) hg).elim
    · obtain ⟨rfl, rfl⟩ := ret_fun (fun k => (hp h k).trans (n _ _)) hg
      exact .inr ⟨B, rfl, fun h' k => (hp h' k).trans (n _ _)⟩
/-- any operation, with a block more beside it -/
theorem go_frm {r : Nat} (hcf : CallFrm r cf) {i : Nat} {ρ : TL} {e : L8} {id : Nat} {h : H} {v : V} {h1 : H} (hne : clD P ops i = .a → cl id ≠ cl r) (hk : Kept r h) (hg : Go1 P G cf N ops id i ρ e h v h1) :
    Kept r h1 ∧ ∀ B, Go1 P G cf N ops id i ρ e (h.ins r B) v (h1.ins r B) := by
  rcases frm_goD (P := P) (G := G) (N := N) hcf ops id i (fun o ho hc => hne (by rw [clD_of ho]; exact hc)) ρ e h hk with n | ⟨u, h2, n, k2, n2⟩
  · exact (ret_no n hg).elim
  · obtain ⟨rfl, rfl⟩ := ret_fun n hg
    exact ⟨k2, n2⟩

end Go.Bvm
