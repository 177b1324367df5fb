/- The abstract machine held against the model's world. Conditions: none. -/
import Derived.Test.YtacpnpdggbfkgaaAvmExec
import Derived.Below
set_option linter.unusedVariables false
namespace Go.Avm
open Go.RowKit (Below)

structure Loc where
  B : Nat
  base : Nat
  sz : Nat
  bsz : Nat

/-- where each block, in each of its versions, lies -/
abbrev Phi := Nat → Nat → Option Loc

mutual
inductive RV (φ : Phi) : V → Value → Prop
  | w {n : Nat} : n < 18446744073709551616 → RV φ (.w n) (.int .i64 ((n : Int) - 9223372036854775808))
  | y {n : Nat} : n < 256 → RV φ (.y n) (.int .u8 (n : Int))
  | t {b : Bool} : RV φ (.t b) (.bool b)
  | s {l n : Nat} {s : ByteArray} : s.size = l → pack s.data.toList = n → RV φ (.s l n) (.string s)
  | p {id off lim ver : Nat} {l : Loc} : φ id ver = some l → lim ≤ l.sz → RV φ (.p id off lim ver) (.pointer (some ⟨l.B, l.base + off, none⟩))
  | sl {id off len ver esz o cap : Nat} {l : Loc} : φ id ver = some l → off + len * esz ≤ l.sz → len ≤ cap → (cap ≠ 0 → o = l.base + off) → l.base + off + cap * esz ≤ l.bsz →
      RV φ (.sl id off len ver esz) (.slice (some ⟨l.B, o, none⟩) len cap)
  | int {k : IntKind} {n : Int} {a b : V} : k ≠ .i64 → k ≠ .u8 → RV φ (.x (.int k n) a b) (.int k n)
  | pnil {a b : V} : RV φ (.x .pnil a b) (.pointer none)
  | slnil {a b : V} : RV φ (.x .slnil a b) (.slice none 0 0)
  | fnil {a b : V} : RV φ (.x .fnil a b) .nilFunc
  | inil {a b : V} : RV φ (.x .inil a b) .nilIface
  | mnil {a b : V} : RV φ (.x .mnil a b) (.map none)
  | undef {a b : V} : RV φ (.x .undef a b) (.tuple #[])
  | agg {a b : V} {l : List Value} : RL φ a l → (∀ v, v ∈ l → v.oneCell' = true) → RV φ (.x .agg a b) (.agg ⟨l⟩)
  | tup {a b : V} {l : List Value} : RL φ a l → RV φ (.x .tup a b) (.tuple ⟨l⟩)
  | iface {t : Nat} {a b : V} {v : Value} : RV φ a v → RV φ (.x (.iface t) a b) (.iface t v)
  | func {f : Nat} {a b : V} {l r : List Value} : RL φ a l → RL φ b r → RV φ (.x (.func f) a b) (.func (.func f) ⟨l⟩ ⟨r⟩)
  | osl {a b : V} {A : Option Addr} {len cap : Nat} : RV φ (.x .osl a b) (.slice A len cap)
  | nn {a b : V} {n : Int} : 0 ≤ n → RV φ (.x .nn a b) (.int .i64 n)
  | any {a b : V} {v : Value} : RV φ (.x .any a b) v
inductive RL (φ : Phi) : V → List Value → Prop
  | nil {a b : V} : RL φ (.x .nil a b) []
  | cons {a b : V} {v : Value} {r : List Value} : RV φ a v → RL φ b r → RL φ (.x .cons a b) (v :: r)
end

def Phi.le (φ ψ : Phi) : Prop := ∀ id v l, φ id v = some l → ψ id v = some l
theorem Phi.le_refl (φ : Phi) : φ.le φ := fun _ _ _ h => h
theorem Phi.le_trans {φ ψ χ : Phi} (h : φ.le ψ) (k : ψ.le χ) : φ.le χ := fun _ _ _ e => k _ _ _ (h _ _ _ e)

mutual
theorem RV.mono {φ ψ : Phi} (h : φ.le ψ) {v : V} {c : Value} (r : RV φ v c) : RV ψ v c := by
  cases r with
  | w a => exact .w a
  | y a => exact .y a
  | t => exact .t
  | s a b => exact .s a b
  | p a b => exact .p (h _ _ _ a) b
  | sl a b c d e => exact .sl (h _ _ _ a) b c d e
  | int a b => exact .int a b
  | pnil => exact .pnil
  | slnil => exact .slnil
  | fnil => exact .fnil
  | inil => exact .inil
  | mnil => exact .mnil
  | undef => exact .undef
  | agg a q => exact .agg (RL.mono h a) q
  | tup a => exact .tup (RL.mono h a)
  | iface a => exact .iface (RV.mono h a)
  | func a b => exact .func (RL.mono h a) (RL.mono h b)
  | osl => exact .osl
  | nn a => exact .nn a
  | any => exact .any
theorem RL.mono {φ ψ : Phi} (h : φ.le ψ) {v : V} {c : List Value} (r : RL φ v c) : RL ψ v c := by
  cases r with
  | nil => exact .nil
  | cons a b => exact .cons (RV.mono h a) (RL.mono h b)
end

/-! trees -/
@[simp] theorem bs_true {α : Type} (x y : α) : bs true x y = x := rfl
@[simp] theorem bs_false {α : Type} (x y : α) : bs false x y = y := rfl
theorem bs_ite {α : Type} (b : Bool) (x y : α) : bs b x y = if b = true then x else y := by cases b <;> rfl

theorem sel8_n8 {α : Type} (d : Nat) (a : α) : sel8 d (n8 a) = a := by
  unfold sel8 sel8a sel8b sel8c sel8d sel8e sel8f n8
  simp only [bs_ite]
  repeat' split
  all_goals rfl

theorem sel8_upd8 {α : Type} (d e : Nat) (v : α) (x : N8 α) (hd : d < 8) (he : e < 8) : sel8 d (upd8 e v x) = if d = e then v else sel8 d x := by
  have h1 : d = 0 ∨ d = 1 ∨ d = 2 ∨ d = 3 ∨ d = 4 ∨ d = 5 ∨ d = 6 ∨ d = 7 := by omega
  have h2 : e = 0 ∨ e = 1 ∨ e = 2 ∨ e = 3 ∨ e = 4 ∨ e = 5 ∨ e = 6 ∨ e = 7 := by omega
  rcases h1 with rfl | rfl | rfl | rfl | rfl | rfl | rfl | rfl <;> rcases h2 with rfl | rfl | rfl | rfl | rfl | rfl | rfl | rfl <;> rfl

theorem idx_lt : ∀ (l : List Nat) (t i : Nat), idx l t = some i → i < l.length
  | [], t, i, h => by simp [idx] at h
  | x :: r, t, i, h => by
    simp only [idx] at h
    split at h
    · simp at h; subst h; simp
    · split at h
      · rename_i j hj
        simp at h; subst h
        have := idx_lt r t j hj
        simp; omega
      · simp at h
theorem idx_inj : ∀ (l : List Nat) (t u i : Nat), idx l t = some i → idx l u = some i → t = u
  | [], t, u, i, h, _ => by simp [idx] at h
  | x :: r, t, u, i, h, k => by
    simp only [idx] at h k
    split at h <;> split at k
    · omega
    · rename_i h1 h2
      simp at h; subst h
      split at k <;> simp at k
    · rename_i h1 h2
      simp at k; subst k
      split at h <;> simp at h
    · split at h <;> split at k
      · rename_i j hj _ j' hj'
        simp at h k
        have : j = j' := by omega
        subst this
        exact idx_inj r t u j hj hj'
      · simp at k
      · simp at h
      · simp at h

theorem getE_putE (N : Fr) (t u : Nat) (v : V) (e : E) (hN : N.l.length ≤ 64) : getE N t (putE N u v e) = if t = u then v else getE N t e := by
  unfold getE putE
  cases ht : idx N.l t with
  | none =>
    cases hu : idx N.l u with
    | none =>
      show bs (Nat.beq u t) v (tget t e.tmp) = _
      by_cases h : t = u
      · subst h; rw [if_pos rfl, Nat.beq_refl]; rfl
      · rw [if_neg h]
        have : Nat.beq u t = false := by rw [← Bool.not_eq_true]; intro k; exact h (Nat.eq_of_beq_eq_true k).symm
        rw [this]; rfl
    | some j =>
      have hne : t ≠ u := fun h => by subst h; rw [ht] at hu; simp at hu
      rw [if_neg hne]
  | some i =>
    have hi := idx_lt _ _ _ ht
    cases hu : idx N.l u with
    | none =>
      have hne : t ≠ u := fun h => by subst h; rw [ht] at hu; simp at hu
      rw [if_neg hne]
    | some j =>
      have hj := idx_lt _ _ _ hu
      simp only
      rw [sel8_upd8 _ _ _ _ (by omega) (by omega)]
      by_cases h : t = u
      · subst h
        rw [ht] at hu; cases hu
        rw [if_pos rfl, if_pos rfl, sel8_upd8 _ _ _ _ (by omega) (by omega), if_pos rfl]
      · rw [if_neg h]
        have hij : i ≠ j := fun k => by subst k; exact h (idx_inj _ _ _ _ ht hu)
        by_cases h1 : i / 8 = j / 8
        · rw [if_pos h1, sel8_upd8 _ _ _ _ (by omega) (by omega), if_neg (by omega), h1]
        · rw [if_neg h1]

theorem getE_e0 (N : Fr) (t : Nat) : getE N t e0 = V.u ∨ getE N t e0 = V.any := by
  unfold getE e0
  split
  · left; simp [sel8_n8]
  · right; rfl

theorem hget_hset (i j : Nat) (b : Blk) (t : T6) (hi : i < 262144) (hj : j < 262144) : hget i (hset j b t) = if i = j then b else hget i t := by
  unfold hget hset hsetb hsetc hsetd hsete hsetf
  rw [sel8_upd8 _ _ _ _ (by omega) (by omega)]
  by_cases h1 : i / 32768 = j / 32768
  · rw [if_pos h1, sel8_upd8 _ _ _ _ (by omega) (by omega)]
    by_cases h2 : i / 4096 % 8 = j / 4096 % 8
    · rw [if_pos h2, sel8_upd8 _ _ _ _ (by omega) (by omega)]
      by_cases h3 : i / 512 % 8 = j / 512 % 8
      · rw [if_pos h3, sel8_upd8 _ _ _ _ (by omega) (by omega)]
        by_cases h4 : i / 64 % 8 = j / 64 % 8
        · rw [if_pos h4, sel8_upd8 _ _ _ _ (by omega) (by omega)]
          by_cases h5 : i / 8 % 8 = j / 8 % 8
          · rw [if_pos h5, sel8_upd8 _ _ _ _ (by omega) (by omega)]
            by_cases h6 : i % 8 = j % 8
            · rw [if_pos h6, if_pos (by omega)]
            · rw [if_neg h6, if_neg (by omega), h1, h2, h3, h4, h5]
          · rw [if_neg h5, if_neg (by omega), h1, h2, h3, h4]
        · rw [if_neg h4, if_neg (by omega), h1, h2, h3]
      · rw [if_neg h3, if_neg (by omega), h1, h2]
    · rw [if_neg h2, if_neg (by omega), h1]
  · rw [if_neg h1, if_neg (by omega)]

theorem hget_t6 (i : Nat) : hget i t6 = .nb := by unfold hget t6; simp [sel8_n8]

theorem aget_aset (i j : Nat) (v : V) (a : Arr) (hi : i < acap a) (hj : j < acap a) : aget i (aset j v a) = if i = j then v else aget i a := by
  cases a with
  | a1 x =>
    have hi' : i < 8 := hi
    have hj' : j < 8 := hj
    exact sel8_upd8 _ _ _ _ hi' hj'
  | a4 x =>
    have hi' : i < 4096 := hi
    have hj' : j < 4096 := hj
    show aget4 i (aset4 j v x) = if i = j then v else aget4 i x
    unfold aget4 aset4 aset4b aset4c
    rw [sel8_upd8 _ _ _ _ (by omega) (by omega)]
    by_cases h1 : i / 512 = j / 512
    · rw [if_pos h1, sel8_upd8 _ _ _ _ (by omega) (by omega)]
      by_cases h2 : i / 64 % 8 = j / 64 % 8
      · rw [if_pos h2, sel8_upd8 _ _ _ _ (by omega) (by omega)]
        by_cases h3 : i / 8 % 8 = j / 8 % 8
        · rw [if_pos h3, sel8_upd8 _ _ _ _ (by omega) (by omega)]
          by_cases h4 : i % 8 = j % 8
          · rw [if_pos h4, if_pos (by omega)]
          · rw [if_neg h4, if_neg (by omega), h1, h2, h3]
        · rw [if_neg h3, if_neg (by omega), h1, h2]
      · rw [if_neg h2, if_neg (by omega), h1]
    · rw [if_neg h1, if_neg (by omega)]

@[simp] theorem acap_aset (j : Nat) (v : V) (a : Arr) : acap (aset j v a) = acap a := by cases a <;> rfl
theorem acap_le (a : Arr) : acap a ≤ 4096 := by cases a <;> simp [acap]
theorem aget_agrow (i : Nat) (a : Arr) (hi : i < acap a) : aget i (agrow a) = aget i a := by
  cases a with
  | a1 x =>
    have hi' : i < 8 := hi
    have h : i = 0 ∨ i = 1 ∨ i = 2 ∨ i = 3 ∨ i = 4 ∨ i = 5 ∨ i = 6 ∨ i = 7 := by omega
    rcases h with rfl | rfl | rfl | rfl | rfl | rfl | rfl | rfl <;> rfl
  | a4 x => rfl
theorem acap_agrow (a : Arr) : acap (agrow a) = 4096 := by cases a <;> rfl
theorem aget_room (n i : Nat) (a : Arr) (hi : i < acap a) : aget i (room n a) = aget i a := by
  unfold room
  cases h : Nat.ble n (acap a)
  · exact aget_agrow i a hi
  · rfl
theorem acap_room (n : Nat) (a : Arr) (hn : n ≤ 4096) : n ≤ acap (room n a) := by
  unfold room
  cases h : Nat.ble n (acap a)
  · rw [bs_false, acap_agrow]; exact hn
  · rw [bs_true]; exact Nat.le_of_ble_eq_true h
theorem acap_room_ge (n : Nat) (a : Arr) : acap a ≤ acap (room n a) := by
  unfold room
  cases h : Nat.ble n (acap a)
  · rw [bs_false, acap_agrow]; exact acap_le a
  · rw [bs_true]; exact Nat.le_refl _
theorem acap_fresh (n : Nat) (hn : n ≤ 4096) : n ≤ acap (fresh n) := by
  unfold fresh
  cases h : Nat.ble n 8
  · rw [bs_false]; exact hn
  · rw [bs_true]; exact Nat.le_of_ble_eq_true h

/-! the relation -/
def owns (b : Blk) : Bool := match b with | .bk _ _ _ _ _ _ o => o | .mp _ => true | .it _ _ _ => true | .nb => false
def verOf (b : Blk) : Nat := match b with | .bk _ _ v _ _ _ _ => v | _ => 0

/-- a block of the world that is one of the run's own now -/
def Own (φ : Phi) (t : T6) (B : Nat) : Prop := ∃ id l, id < 262144 ∧ owns (hget id t) = true ∧ φ id (verOf (hget id t)) = some l ∧ l.B = B

def BlkOk (φ : Phi) (w : World) (id : Nat) : Blk → Prop
  | .nb => True
  | .bk c size ver frz elem ex own => ∃ l cs fr, φ id ver = some l ∧ l.sz = size ∧ w.heap[l.B]? = some (.cells cs elem fr) ∧ l.bsz = cs.size ∧ l.base + size ≤ cs.size ∧ size ≤ acap c ∧
      (∀ i, i < size → ∃ v, cs[l.base + i]? = some v ∧ RV φ (aget i c) v ∧ v.oneCell' = true) ∧ (∀ v, ver < v → φ id v = none) ∧
      (own = true → ∀ i, frz ≤ i → l.base + i < cs.size → ¬ (fr.1 ≤ l.base + i ∧ l.base + i < fr.2)) ∧ (ex = true → l.base = 0 ∧ size = cs.size)
  | .mp _ => False
  | .it _ _ _ => False

structure Rel (φ : Phi) (h : H) (w : World) : Prop where
  next : h.next ≤ 262144
  dom : ∀ id v l, φ id v = some l → id < h.next ∧ l.B < w.heap.size ∧ l.base + l.sz ≤ l.bsz
  blk : ∀ id, id < 262144 → BlkOk φ w id (hget id h.tr)
  apart : ∀ i j, i < 262144 → j < 262144 → i ≠ j → owns (hget i h.tr) = true → hget j h.tr ≠ .nb → ∀ l m, φ i (verOf (hget i h.tr)) = some l → φ j (verOf (hget j h.tr)) = some m → l.B ≠ m.B

/-- what a step may turn -/
structure Ext (φ : Phi) (t : T6) (w : World) (φ' : Phi) (t' : T6) (w' : World) : Prop where
  le : φ.le φ'
  os : w'.os = w.os
  tape : w'.tape = w.tape
  output : w'.output = w.output
  size : w.heap.size ≤ w'.heap.size
  own : ∀ B, B < w.heap.size → Own φ' t' B → Own φ t B
  frame : ∀ B, B < w.heap.size → ¬ Own φ t B → w'.heap[B]? = w.heap[B]?

theorem Ext.refl (φ : Phi) (t : T6) (w : World) : Ext φ t w φ t w := ⟨φ.le_refl, rfl, rfl, rfl, Nat.le_refl _, fun _ _ h => h, fun _ _ _ => rfl⟩
theorem Ext.trans {φ φ' φ'' : Phi} {t t' t'' : T6} {w w' w'' : World} (a : Ext φ t w φ' t' w') (b : Ext φ' t' w' φ'' t'' w'') : Ext φ t w φ'' t'' w'' :=
  ⟨Phi.le_trans a.le b.le, b.os.trans a.os, b.tape.trans a.tape, b.output.trans a.output, Nat.le_trans a.size b.size,
   fun B hB h => a.own B hB (b.own B (Nat.lt_of_lt_of_le hB a.size) h),
   fun B hB h => (b.frame B (Nat.lt_of_lt_of_le hB a.size) (fun k => h (a.own B hB k))).trans (a.frame B hB h)⟩

/-- the package-level variables that may be read lie where they should -/
def GlobOk (P : Program) (G : Nat → Bool) (φ : Phi) : Prop := ∀ g q, G g = true → P.globals[g]? = some q → ∃ l, φ g 0 = some l ∧ l.B = g ∧ l.base = 0 ∧ sizeT P q.type ≤ l.sz
theorem GlobOk.mono {P : Program} {G : Nat → Bool} {φ ψ : Phi} (h : φ.le ψ) (k : GlobOk P G φ) : GlobOk P G ψ :=
  fun g q a b => let ⟨l, e, r⟩ := k g q a b; ⟨l, h _ _ _ e, r⟩

/-- the frame -/
structure RE (φ : Phi) (N : Fr) (e : E) (a : Act) : Prop where
  size : a.tmps.size = N.n
  le : N.l.length ≤ 64
  at_ : ∀ t, t < N.n → ∃ v, a.tmps[t]? = some v ∧ RV φ (getE N t e) v

theorem RE.mono {φ ψ : Phi} (h : φ.le ψ) {N : Fr} {e : E} {a : Act} (r : RE φ N e a) : RE ψ N e a :=
  ⟨r.size, r.le, fun t ht => let ⟨v, e, q⟩ := r.at_ t ht; ⟨v, e, q.mono h⟩⟩

theorem RE.put {φ : Phi} {N : Fr} {e : E} {a : Act} (r : RE φ N e a) {t : Nat} (ht : t < N.n) {v : V} {c : Value} (hv : RV φ v c) : RE φ N (putE N t v e) (a.put (some t) c) := by
  refine ⟨by simp [Act.put, r.size], r.le, fun u hu => ?_⟩
  rw [getE_putE _ _ _ _ _ r.le]
  by_cases h : u = t
  · subst h
    rw [if_pos rfl]
    exact ⟨c, by simp [Act.put, r.size, hu], hv⟩
  · rw [if_neg h]
    obtain ⟨q, e1, e2⟩ := r.at_ u hu
    exact ⟨q, by simp only [Act.put]; rw [Array.getElem?_setIfInBounds, if_neg (fun k => h k.symm)]; exact e1, e2⟩

theorem RE.put_none {φ : Phi} {N : Fr} {e : E} {a : Act} (r : RE φ N e a) (c : Value) : RE φ N e (a.put none c) := r

theorem RE.drop {φ : Phi} {N : Fr} {e : E} {a : Act} (r : RE φ N e a) : RE φ N ⟨e.loc, .n⟩ a := by
  refine ⟨r.size, r.le, fun t ht => ?_⟩
  obtain ⟨v, e1, e2⟩ := r.at_ t ht
  refine ⟨v, e1, ?_⟩
  unfold getE at e2 ⊢
  cases h : idx N.l t with
  | none => exact .any
  | some i => rw [h] at e2; exact e2

end Go.Avm
