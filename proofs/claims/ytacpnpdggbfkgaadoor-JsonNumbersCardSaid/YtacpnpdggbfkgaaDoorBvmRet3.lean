/- The abstract machine: code has one answer. Conditions: none. -/
import Derived.Test.YtacpnpdggbfkgaaDoorBvmRet2
set_option linter.unusedVariables false
namespace Go.Bvm
variable {P : Program} {G : Nat → Bool} {N : Fr} {q : Operand → Option V}

/-- calls with one answer -/
def CallRet (cf : CallF) : Prop := ∀ f l h, RetV (cf f l h)

/-- the answers that a slice's append reads from -/
def RetS (F : ((n : Nat) → (Nat → Arr → Arr) → Bool) → Bool) : Prop := (∀ k, F k = false) ∨ ∃ n s, ∀ k, F k = k n s
theorem ret_onSrc (esz : Nat) (v : V) (h : H) : RetS (onSrc esz v h) := by
  have hb : ∀ (x : Bool) (F : ((n : Nat) → (Nat → Arr → Arr) → Bool) → Bool), RetS F → RetS (fun k => both x (F k)) := fun x F hF => by
    cases x
    · exact .inl fun _ => rfl
    · exact hF
  cases v with
  | s l n => exact hb _ _ (.inr ⟨_, _, fun k => rfl⟩)
  | sl id off len ver es =>
    refine hb _ _ ?_
    show RetS (fun k => onBk (hget id h.tr) fun c size bver _ _ _ _ => both (Nat.beq ver bver) (k len (fun j c' => acopy c (len * esz) off j c')))
    cases hget id h.tr with
    | bk c size bver frz elem ex own => exact hb _ _ (.inr ⟨_, _, fun k => rfl⟩)
    | _ => exact .inl fun _ => rfl
  | x g a b => cases g <;> first | exact .inl fun _ => rfl | exact .inr ⟨_, _, fun k => rfl⟩
  | _ => exact .inl fun _ => rfl

theorem ret_app (esz elem : Nat) (x y : V) (h : H) : RetV (app esz elem x y h) := by
  refine .both ?_
  show RetG (fun k : V × H → Bool => onSrc esz y h _)
  rcases ret_onSrc esz y h with e | ⟨n, s, e⟩
  · exact .inl fun k => e _
  · have : ∀ (A : (V × H → Bool) → (n : Nat) → (Nat → Arr → Arr) → Bool), RetG (fun k => A k n s) → RetG (fun k => onSrc esz y h (A k)) := fun A hA => by
      have e2 : (fun k => onSrc esz y h (A k)) = fun k => A k n s := by funext k; exact e _
      rw [e2]; exact hA
    refine this _ (.bs (.onSl (.k _) fun _ _ _ _ _ => .k _) (.onSl (.both (.both (.k _))) fun id off len ver es => .both (.onBk fun c size bver frz el ex own => .both (.both (.both (.bs (.both (.k _)) (.both (.both (.k _)))))))))

theorem ret_st (one : Bool) (n : Nat) (x y : V) (h : H) : RetV (st one n x y h) :=
  .onP fun id off lim ver => .onBk fun c size bver frz elem ex own => .both (.both (.both (.both
    (RetG.bind (F := layV one y n off c) (f := fun c' (k : V × H → Bool) => k (V.u, ⟨h.next, hset id (.bk c' size bver frz elem ex own) h.tr⟩)) (ret_layV _ _ _ _ _) fun c' => .k _))))

theorem ret_usS (e : Nat) (x y : V) (h : H) : RetV (usS e x y h) :=
  .onW fun m => .both (.bs (.bs (.k _) (.onP fun _ _ _ _ => .k _)) (.onP fun id off lim ver => .onBk fun c size bver frz elem ex own => .both (.both (.both (.both
    (RetG.bind (F := packA c (m - bias) off) (f := fun r (k : V × H → Bool) => k (.s (m - bias) r, ⟨h.next, hset id (.bk c size bver frz elem ex false) h.tr⟩)) (ret_packA c _ off) fun r => .k _))))))

theorem ret_cvS (x : V) (h : H) : RetV (cvS x h) := .onSl .no fun id off len ver es => .both (.onBk fun c size bver frz elem ex own => .both (.both (.k _)))

theorem ret_itN (x : V) (h : H) : RetV (itN x h) := .onP fun id off lim ver => .both (.both (.onIt fun l n pos => .both (.bs (.k _) (.both (.k _)))))
theorem ret_mpI (x y z : V) (h : H) : RetV (mpI x y z h) := .onMap .no fun id => .onS fun l n => .onMp fun kv => RetG.fndK (yes := fun _ _ => false) (no := fun k : V × H → Bool => k (V.u, _)) (fun _ => .no) (.k _) kv

theorem ret_fop {cf : CallF} (hcf : CallRet cf) (o : Op) (h : H) : RetV (fop P cf q o h) := by
  unfold RetV fop
  split
  · split
    · exact .bi fun a b => ret_st _ _ _ _ _
    · exact .no
  · split
    · exact hcf _ _ _
    · exact .no
  · split
    · exact .un fun a => .onFn fun f b c => hcf _ _ _
    · exact .no
  · split
    · unfold appOp
      split
      · split
        · split
          · split
            · split
              · split
                · exact .bi fun a b => ret_app _ _ _ _ _
                · exact .no
              · exact .no
            · exact .no
          · split
            · split
              · split
                · exact .bi fun a b => ret_app _ _ _ _ _
                · exact .no
              · exact .no
            · exact .no
          · exact .no
        · exact .no
      · exact .no
    · exact .no
  · exact .un fun a => ret_itN _ _
  · split
    · split
      · exact .un fun a => .bi fun b c => ret_mpI _ _ _ _
      · exact .no
    · exact .no
  · split
    · split
      · split
        · exact .un fun a => ret_cvS _ _
        · exact .no
      · exact .no
    · exact .no
  · split
    · split
      · split
        · exact .bi fun a b => ret_usS _ _ _ _
        · exact .no
      · exact .no
    · exact .no
  · exact .no

theorem ret_vop {cf : CallF} (hcf : CallRet cf) (o : Op) (h : H) : RetV (vop P cf q o h) := by
  unfold RetV vop
  split
  · exact RetG.bind (F := fun k => pop P q o k) (f := fun v (k : V × H → Bool) => k (v, h)) (ret_pop o) fun v => .k _
  · exact RetG.bind (F := fun k => lop P q o h k) (f := fun v (k : V × H → Bool) => k (v, h)) (ret_lop o h) fun v => .k _
  · refine .both ?_
    rcases ret_aop (P := P) (q := q) o h.next with e | ⟨v, b, e⟩
    · exact .inl fun k => e _ _
    · exact .inr ⟨(v, _), fun k => e _ _⟩
  · exact ret_fop hcf o h

theorem ret_guardT {x : V} {h : H} {f : KV → Bool} (hf : RetV f) : RetV (guardT x h f) := by
  cases x with
  | t b => cases b with
    | true => exact hf
    | false => exact .k _
  | x g a b => cases g <;> first | exact .no | exact .k _
  | _ => exact .no
theorem ret_guardF {x : V} {h : H} {f : KV → Bool} (hf : RetV f) : RetV (guardF x h f) := by
  cases x with
  | t b => cases b with
    | false => exact hf
    | true => exact .k _
  | x g a b => cases g <;> first | exact .no | exact .k _
  | _ => exact .no

theorem ret_goR {cf : CallF} (hcf : CallRet cf) (ops : Array Oper) (i : Nat) (ρ : TL) (e : L8) (h : H) : RetV (goR P G cf N ops i ρ e h) := by
  unfold RetV goR
  split
  · exact .no
  · split
    · exact ret_vop hcf _ _
    · split
      · split
        · split
          · split
            · exact ret_guardT (ret_vop hcf _ _)
            · exact ret_guardF (ret_vop hcf _ _)
          · exact .no
        · exact .no
      · exact .no

theorem ret_put {α : Type} {d : Option Tmp} {v : V} {ρ : TL} {e : L8} (hN : N.l.length ≤ 64) {f : TL → L8 → (α → Bool) → Bool} (h : ∀ ρ e, RetG (f ρ e)) : RetG (fun k => put N d v ρ e fun ρ' e' => f ρ' e' k) := by
  unfold put
  split
  · exact h _ _
  · split
    · split
      · rename_i i hi
        have := idx_lt _ _ _ hi
        have e2 : ∀ g : L8 → (α → Bool) → Bool, (fun k : α → Bool => putL i v e fun e' => g e' k) = fun k => g (updL i v e) k := fun g => by
          funext k; exact putL_eq _ (by omega) _ _ _
        rw [e2]; exact h _ _
      · exact h _ _
    · exact .no

/-- a region's answer: what is known of the places, the frame, memory -/
def RetT (F : KT → Bool) : Prop := RetG (fun k : TL × L8 × H → Bool => F fun ρ e h => k (ρ, e, h))
def RetX (F : KX → Bool) : Prop := RetG (fun k : X × L8 × H → Bool => F fun x e h => k (x, e, h))

theorem ret_runR {cf : CallF} (hcf : CallRet cf) (hN : N.l.length ≤ 64) (ops : Array Oper) : ∀ (l : List Nat) (ρ : TL) (e : L8) (h : H), RetT (runR P G cf N ops l ρ e h)
  | [], ρ, e, h => .k _
  | i :: r, ρ, e, h => RetG.bind (F := fun k : V × H → Bool => goR P G cf N ops i ρ e h fun v h' => k (v, h'))
      (f := fun x (k : TL × L8 × H → Bool) => put N (dstR ops i) x.1 ρ e fun ρ' e' => runR P G cf N ops r ρ' e' x.2 fun ρ e h => k (ρ, e, h)) (ret_goR hcf ops i ρ e h)
      fun x => ret_put hN fun ρ' e' => ret_runR hcf hN ops r ρ' e' x.2

theorem ret_seqM {a b : M} (ha : ∀ e h, RetX (a e h)) (hb : ∀ e h, RetX (b e h)) (e : L8) (h : H) : RetX (seqM a b e h) :=
  RetG.bind (F := fun k : X × L8 × H → Bool => a e h fun x e h => k (x, e, h))
    (f := fun y (k : X × L8 × H → Bool) => X.rec (motive := fun _ => Bool) (b y.2.1 y.2.2 fun x e h => k (x, e, h)) (fun i => k (.x i, y.2.1, y.2.2)) (k (.r, y.2.1, y.2.2)) y.1) (ha e h) fun y => by
      obtain ⟨x, e', h'⟩ := y
      cases x
      · exact hb _ _
      · exact .k _
      · exact .k _

theorem ret_blockM {i : Nat} {a : M} (ha : ∀ e h, RetX (a e h)) (e : L8) (h : H) : RetX (blockM i a e h) :=
  RetG.bind (F := fun k : X × L8 × H → Bool => a e h fun x e h => k (x, e, h)) (f := fun y (k : X × L8 × H → Bool) => k (unX i y.1, y.2.1, y.2.2)) (ha e h) fun y => .k _

theorem ret_loopM {a : M} (ha : ∀ e h, RetX (a e h)) : ∀ (n : Nat) (e : L8) (h : H), RetX (loopM n a e h)
  | 0, e, h => .no
  | n + 1, e, h => RetG.bind (F := fun k : X × L8 × H → Bool => a e h fun x e h => k (x, e, h))
    (f := fun y (k : X × L8 × H → Bool) => X.rec (motive := fun _ => Bool) (loopM n a y.2.1 y.2.2 fun x e h => k (x, e, h)) (fun i => k (.x i, y.2.1, y.2.2)) (k (.r, y.2.1, y.2.2)) y.1) (ha e h) fun y => by
      obtain ⟨x, e', h'⟩ := y
      cases x
      · exact ret_loopM ha n _ _
      · exact .k _
      · exact .k _

theorem ret_vopD {cf : CallF} (hcf : CallRet cf) (id : Nat) (o : Op) (h : H) : RetV (vopD P cf q id o h) := by
  unfold RetV vopD
  split
  · exact RetG.bind (F := fun k => pop P q o k) (f := fun v (k : V × H → Bool) => k (v, h)) (ret_pop o) fun v => .k _
  · exact RetG.bind (F := fun k => lop P q o h k) (f := fun v (k : V × H → Bool) => k (v, h)) (ret_lop o h) fun v => .k _
  · rcases ret_aop (P := P) (q := q) o id with e | ⟨v, b, e⟩
    · exact .inl fun k => e _ _
    · exact .inr ⟨(v, _), fun k => e _ _⟩
  · exact ret_fop hcf o h

theorem ret_goD {cf : CallF} (hcf : CallRet cf) (ops : Array Oper) (id i : Nat) (ρ : TL) (e : L8) (h : H) : RetV (goD P G cf N ops id i ρ e h) := by
  unfold RetV goD
  split
  · exact .no
  · split
    · exact ret_vopD hcf _ _ _
    · split
      · split
        · split
          · split
            · exact ret_guardT (ret_vopD hcf _ _ _)
            · exact ret_guardF (ret_vopD hcf _ _ _)
          · exact .no
        · exact .no
      · exact .no

theorem ret_chksD {cf : CallF} (hcf : CallRet cf) (ops : Array Oper) (ρ : TL) (e : L8) (h : H) : ∀ c : List Nat, (∀ k, chksD P G cf N ops c ρ e h k = false) ∨ ∀ k, chksD P G cf N ops c ρ e h k = k
  | [] => .inr fun _ => rfl
  | j :: r => by
    unfold chksD
    split
    · rename_i d hd
      rcases RetV.iff.1 (ret_goD (P := P) (G := G) (N := N) hcf ops 0 j ρ e h) with e1 | ⟨v, h', e1⟩
      · exact .inl fun k => e1 _
      · rcases ret_chksD hcf ops ρ e h r with e2 | e2
        · exact .inl fun k => by rw [e1, e2]; cases eqV v (getT N d ρ e) <;> rfl
        · cases e3 : eqV v (getT N d ρ e) with
          | false => exact .inl fun k => by rw [e1, e3]; rfl
          | true => exact .inr fun k => by rw [e1, e3, e2]; rfl
    · exact .inl fun _ => rfl

theorem ret_runD {cf : CallF} (hcf : CallRet cf) (hN : N.l.length ≤ 64) (ops : Array Oper) (b : Nat) : ∀ (l : List Od) (ρ : TL) (e : L8) (h : H), RetT (runD P G cf N ops b l ρ e h)
  | [], ρ, e, h => .k _
  | i :: r, ρ, e, h => RetG.bind (F := fun k : V × H → Bool => goD P G cf N ops (Nat.add b i.r) i.i ρ e h fun v h' => k (v, h'))
      (f := fun x (k : TL × L8 × H → Bool) => put N (dstR ops i.i) x.1 ρ e fun ρ' e' => chksD P G cf N ops i.c ρ' e' x.2 (runD P G cf N ops b r ρ' e' x.2 fun ρ e h => k (ρ, e, h))) (ret_goD hcf ops _ i.i ρ e h)
      fun x => ret_put hN fun ρ' e' => by
        rcases ret_chksD (P := P) (G := G) (N := N) hcf ops ρ' e' x.2 i.c with e1 | e1
        · exact .inl fun k => e1 _
        · rcases ret_runD hcf hN ops b r ρ' e' x.2 with e2 | ⟨a, e2⟩
          · exact .inl fun k => (e1 _).trans (e2 k)
          · exact .inr ⟨a, fun k => (e1 _).trans (e2 k)⟩

theorem ret_regR {cf : CallF} (hcf : CallRet cf) (hN : N.l.length ≤ 64) {c : Code} {f : TL → L8 → H → KT → Bool} (hf : regR P G cf N c = some f) (ρ : TL) (e : L8) (h : H) : RetT (f ρ e h) := by
  cases c <;> try (simp [regR] at hf; done)
  rename_i i ops d
  cases d
  · simp only [regR, Option.some.injEq] at hf
    subst hf
    exact ret_runR hcf hN ops _ ρ e h
  · simp only [regR] at hf
    split at hf
    · split at hf
      · simp only [Option.some.injEq] at hf
        subst hf
        exact .both (ret_runD hcf hN ops _ _ ρ e _)
      · simp at hf
    · simp at hf

theorem ret_exec {cf : CallF} (hcf : CallRet cf) (hN : N.l.length ≤ 64) (lf : Nat) : ∀ (c : Code) (ρ : TL) (e : L8) (h : H), RetX (exec P G cf lf N c ρ e h)
  | .skip, ρ, e, h => .k _
  | .region i ops d, ρ, e, h => by
    rw [exec_region]
    cases hf : regR P G cf N (.region i ops d) with
    | some f =>
      exact RetG.bind (F := fun k : TL × L8 × H → Bool => f ρ e h fun ρ e h => k (ρ, e, h)) (f := fun y (k : X × L8 × H → Bool) => k (.n, y.2.1, y.2.2)) (ret_regR hcf hN hf ρ e h) fun y => .k _
    | none => exact .no
  | .seq a b, ρ, e, h => by
    rw [exec_seq]
    cases hf : regR P G cf N a with
    | some f =>
      exact RetG.bind (F := fun k : TL × L8 × H → Bool => f ρ e h fun ρ e h => k (ρ, e, h)) (f := fun y (k : X × L8 × H → Bool) => exec P G cf lf N b y.1 y.2.1 y.2.2 fun x e h => k (x, e, h)) (ret_regR hcf hN hf ρ e h) fun y => ret_exec hcf hN lf b _ _ _
    | none => exact ret_seqM (ret_exec hcf hN lf a ρ) (ret_exec hcf hN lf b .n) e h
  | .cond c a b, ρ, e, h => by
    rw [exec_cond]
    unfold RetX
    dsimp only
    split
    · rename_i x hx
      cases x with
      | t t => cases t with
        | true => exact ret_exec hcf hN lf a ρ e h
        | false => exact ret_exec hcf hN lf b ρ e h
      | _ => exact .no
    · exact .no
  | .block i a, ρ, e, h => ret_blockM (ret_exec hcf hN lf a ρ) e h
  | .loop a, ρ, e, h => ret_loopM (ret_exec hcf hN lf a .n) lf e h
  | .exit i, ρ, e, h => .k _
  | .ret, ρ, e, h => .k _
  | .rangeFunc .., ρ, e, h => .no
  | .scope _, ρ, e, h => .no
  | .label _, ρ, e, h => .no
  | .goto _, ρ, e, h => .no
  | .refuse _, ρ, e, h => .no

theorem ret_ldV (t : TypeId) (a : V) (h : H) : RetG (ldV P t a h) := by
  unfold ldV
  split
  · exact .onP fun id off lim ver => .onBk fun c _ bver _ _ _ _ => .both (.both (.k _))
  · exact .onP fun id off lim ver => .onBk fun c _ bver _ _ _ _ => .both (.both (.k _))
theorem ret_resL : ∀ {l : List ResultVar} {q : QF}, resL P N l = some q → ∀ e h, RetG (q e h)
  | [], q, hq, e, h => by simp only [resL, Option.some.injEq] at hq; subst hq; exact .k _
  | .tmp t :: r, q, hq, e, h => by
    simp only [resL] at hq
    split at hq
    · split at hq
      · rename_i q' hq'
        simp only [Option.some.injEq] at hq; subst hq
        exact RetG.bind (F := q' e h) (f := fun l (k : V → Bool) => k (.x .cons (getT N t .n e) l)) (ret_resL hq' e h) fun l => .k _
      · simp at hq
    · simp at hq
  | .cell c t :: r, q, hq, e, h => by
    simp only [resL] at hq
    split at hq
    · split at hq
      · rename_i q' hq'
        simp only [Option.some.injEq] at hq; subst hq
        exact RetG.bind (F := ldV P t (getT N c .n e) h) (f := fun v (k : V → Bool) => q' e h fun l => k (.x .cons v l)) (ret_ldV t _ h) fun v =>
          RetG.bind (F := q' e h) (f := fun l (k : V → Bool) => k (.x .cons v l)) (ret_resL hq' e h) fun l => .k _
      · simp at hq
    · simp at hq
theorem ret_resE {l : List ResultVar} {q : QF} (hq : resE P N l = some q) (e : L8) (h : H) : RetG (q e h) := by
  unfold resE at hq
  split at hq
  · split at hq
    · simp only [Option.some.injEq] at hq; subst hq; exact .k _
    · simp at hq
  · split at hq
    · simp only [Option.some.injEq] at hq; subst hq; exact ret_ldV _ _ _
    · simp at hq
  · split at hq
    · rename_i q' hq'
      simp only [Option.some.injEq] at hq; subst hq
      exact RetG.bind (F := q' e h) (f := fun l (k : V → Bool) => k (.x .tup l V.nil)) (ret_resL hq' e h) fun l => .k _
    · simp at hq
theorem ret_finK {q : QF} (hq : ∀ e h, RetG (q e h)) (x : X) (e : L8) (h : H) : RetG (fun k : V × H → Bool => finK q (fun v h' => k (v, h')) x e h) := by
  have : RetG (fun k : V × H → Bool => q e h fun v => k (v, h)) := RetG.bind (F := q e h) (f := fun v (k : V × H → Bool) => k (v, h)) (hq e h) fun v => .k _
  cases x
  · exact this
  · exact .no
  · exact this

theorem ret_argsK {α : Type} : ∀ (n i : Nat) (ρ : TL) (e : L8) (l : V) {f : TL → L8 → (α → Bool) → Bool}, (∀ ρ e, RetG (f ρ e)) → RetG (fun k => argsK N n i ρ e l fun ρ' e' => f ρ' e' k)
  | 0, i, ρ, e, l, f, h => .onNil (h _ _)
  | n + 1, i, ρ, e, l, f, h => .onCons fun a r => by
    split
    · exact ret_argsK n _ _ _ _ h
    · exact ret_argsK n _ _ _ _ h

theorem ret_fnF {LF : Nat → List Nat} {OF : Nat → Nat → Option (Nat × List Od)} {cf : CallF} {lf : Nat} (hcf : CallRet cf) : CallRet (fnF P G LF OF cf lf) := by
  intro f l h
  unfold RetV fnF
  cases hf : P.funcs[f]? with
  | none => exact .no
  | some fn =>
    dsimp only
    by_cases h1 : (fn.name == "runtime.NumGoroutine") = true
    · rw [if_pos h1]; exact .no
    · rw [if_neg h1]
      by_cases hc : (LF f).length ≤ 64 ∧ fn.params.size + fn.nfree ≤ fn.ntmps
      · rw [if_pos hc]
        cases hb : fn.body with
        | none => exact .no
        | some c =>
          cases hq : resE P ⟨fn.ntmps, LF f, OF f⟩ fn.results.toList with
          | none => exact .no
          | some q =>
            exact ret_argsK _ _ _ _ _ (f := fun ρ e (k : V × H → Bool) => exec P G cf lf _ c ρ e h fun x e' h' => finK q (fun v h' => k (v, h')) x e' h') fun ρ e =>
              RetG.bind (F := fun k : X × L8 × H → Bool => exec P G cf lf _ c ρ e h fun x e h => k (x, e, h)) (f := fun y (k : V × H → Bool) => finK q (fun v h' => k (v, h')) y.1 y.2.1 y.2.2) (ret_exec hcf hc.1 lf c ρ e h) fun y => by
                exact ret_finK (ret_resE hq) y.1 y.2.1 y.2.2
      · rw [if_neg hc]; exact .no

end Go.Bvm
