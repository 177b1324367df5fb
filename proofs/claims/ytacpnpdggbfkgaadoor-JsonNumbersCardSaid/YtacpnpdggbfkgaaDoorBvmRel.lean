/- The abstract machine held against the model's world. Conditions: none. -/
import Derived.Test.YtacpnpdggbfkgaaDoorBvmExec
import Derived.Below
set_option linter.unusedVariables false
namespace Go.Bvm
open Go.RowKit (Below)

structure Loc where
  B : Nat
  base : Nat
  sz : Nat
  bsz : Nat

/-- where each block, in each of its versions, lies -/
abbrev Phi := Nat → Nat → Option Loc

mutual
inductive RV (φ : Phi) : V → Value → Prop
  | w {n : Nat} : n < 18446744073709551616 → RV φ (.w n) (.int .i64 ((n : Int) - 9223372036854775808))
  | y {n : Nat} : n < 256 → RV φ (.y n) (.int .u8 (n : Int))
  | t {b : Bool} : RV φ (.t b) (.bool b)
  | s {l n : Nat} {s : ByteArray} : s.size = l → pack s.data.toList = n → RV φ (.s l n) (.string s)
  | p {id off lim ver : Nat} {l : Loc} : φ id ver = some l → lim ≤ l.sz → RV φ (.p id off lim ver) (.pointer (some ⟨l.B, l.base + off, none⟩))
  | sl {id off len ver esz o cap : Nat} {l : Loc} : φ id ver = some l → off + len * esz ≤ l.sz → len ≤ cap → (cap ≠ 0 → o = l.base + off) → l.base + off + cap * esz ≤ l.bsz →
      RV φ (.sl id off len ver esz) (.slice (some ⟨l.B, o, none⟩) len cap)
  | int {k : IntKind} {n : Int} {a b : V} : k ≠ .i64 → k ≠ .u8 → RV φ (.x (.int k n) a b) (.int k n)
  | pnil {a b : V} : RV φ (.x .pnil a b) (.pointer none)
  | slnil {a b : V} : RV φ (.x .slnil a b) (.slice none 0 0)
  | fnil {a b : V} : RV φ (.x .fnil a b) .nilFunc
  | inil {a b : V} : RV φ (.x .inil a b) .nilIface
  | mnil {a b : V} : RV φ (.x .mnil a b) (.map none)
  | undef {a b : V} : RV φ (.x .undef a b) (.tuple #[])
  | agg {a b : V} {l : List Value} : RL φ a l → (∀ v, v ∈ l → v.oneCell' = true) → RV φ (.x .agg a b) (.agg ⟨l⟩)
  | tup {a b : V} {l : List Value} : RL φ a l → RV φ (.x .tup a b) (.tuple ⟨l⟩)
  | iface {t : Nat} {a b : V} {v : Value} : RV φ a v → RV φ (.x (.iface t) a b) (.iface t v)
  | func {f : Nat} {a b : V} {l r : List Value} : RL φ a l → RL φ b r → RV φ (.x (.func f) a b) (.func (.func f) ⟨l⟩ ⟨r⟩)
  | osl {a b : V} {A : Option Addr} {len cap : Nat} : RV φ (.x .osl a b) (.slice A len cap)
  | nn {a b : V} {n : Int} : 0 ≤ n → RV φ (.x .nn a b) (.int .i64 n)
  | any {a b : V} {v : Value} : RV φ (.x .any a b) v
  | map {id : Nat} {a b : V} {l : Loc} : φ id 0 = some l → RV φ (.x (.map id) a b) (.map (some l.B))
inductive RL (φ : Phi) : V → List Value → Prop
  | nil {a b : V} : RL φ (.x .nil a b) []
  | cons {a b : V} {v : Value} {r : List Value} : RV φ a v → RL φ b r → RL φ (.x .cons a b) (v :: r)
end

def Phi.le (φ ψ : Phi) : Prop := ∀ id v l, φ id v = some l → ψ id v = some l
theorem Phi.le_refl (φ : Phi) : φ.le φ := fun _ _ _ h => h
theorem Phi.le_trans {φ ψ χ : Phi} (h : φ.le ψ) (k : ψ.le χ) : φ.le χ := fun _ _ _ e => k _ _ _ (h _ _ _ e)

mutual
theorem RV.mono {φ ψ : Phi} (h : φ.le ψ) {v : V} {c : Value} (r : RV φ v c) : RV ψ v c := by
  cases r with
  | w a => exact .w a
  | y a => exact .y a
  | t => exact .t
  | s a b => exact .s a b
  | p a b => exact .p (h _ _ _ a) b
  | sl a b c d e => exact .sl (h _ _ _ a) b c d e
  | int a b => exact .int a b
  | pnil => exact .pnil
  | slnil => exact .slnil
  | fnil => exact .fnil
  | inil => exact .inil
  | mnil => exact .mnil
  | undef => exact .undef
  | agg a q => exact .agg (RL.mono h a) q
  | tup a => exact .tup (RL.mono h a)
  | iface a => exact .iface (RV.mono h a)
  | func a b => exact .func (RL.mono h a) (RL.mono h b)
  | osl => exact .osl
  | nn a => exact .nn a
  | any => exact .any
  | map a => exact .map (h _ _ _ a)
theorem RL.mono {φ ψ : Phi} (h : φ.le ψ) {v : V} {c : List Value} (r : RL φ v c) : RL ψ v c := by
  cases r with
  | nil => exact .nil
  | cons a b => exact .cons (RV.mono h a) (RL.mono h b)
end

/-! trees -/
@[simp] theorem bs_true {α : Type} (x y : α) : bs true x y = x := rfl
@[simp] theorem bs_false {α : Type} (x y : α) : bs false x y = y := rfl
theorem bs_ite {α : Type} (b : Bool) (x y : α) : bs b x y = if b = true then x else y := by cases b <;> rfl

theorem sel8_n8 {α : Type} (d : Nat) (a : α) : sel8 d (n8 a) = a := by
  unfold sel8 sel8a sel8b sel8c sel8d sel8e sel8f n8
  simp only [bs_ite]
  repeat' split
  all_goals rfl

theorem sel8_upd8 {α : Type} (d e : Nat) (v : α) (x : N8 α) (hd : d < 8) (he : e < 8) : sel8 d (upd8 e v x) = if d = e then v else sel8 d x := by
  have h1 : d = 0 ∨ d = 1 ∨ d = 2 ∨ d = 3 ∨ d = 4 ∨ d = 5 ∨ d = 6 ∨ d = 7 := by omega
  have h2 : e = 0 ∨ e = 1 ∨ e = 2 ∨ e = 3 ∨ e = 4 ∨ e = 5 ∨ e = 6 ∨ e = 7 := by omega
  rcases h1 with rfl | rfl | rfl | rfl | rfl | rfl | rfl | rfl <;> rcases h2 with rfl | rfl | rfl | rfl | rfl | rfl | rfl | rfl <;> rfl

theorem idx_lt : ∀ (l : List Nat) (t i : Nat), idx l t = some i → i < l.length
  | [], t, i, h => by simp [idx] at h
  | x :: r, t, i, h => by
    simp only [idx] at h
    split at h
    · simp at h; subst h; simp
    · split at h
      · rename_i j hj
        simp at h; subst h
        have := idx_lt r t j hj
        simp; omega
      · simp at h
theorem idx_inj : ∀ (l : List Nat) (t u i : Nat), idx l t = some i → idx l u = some i → t = u
  | [], t, u, i, h, _ => by simp [idx] at h
  | x :: r, t, u, i, h, k => by
    simp only [idx] at h k
    split at h <;> split at k
    · omega
    · rename_i h1 h2
      simp at h; subst h
      split at k <;> simp at k
    · rename_i h1 h2
      simp at k; subst k
      split at h <;> simp at h
    · split at h <;> split at k
      · rename_i j hj _ j' hj'
        simp at h k
        have : j = j' := by omega
        subst this
        exact idx_inj r t u j hj hj'
      · simp at k
      · simp at h
      · simp at h

theorem getL_updL (i j : Nat) (v : V) (e : L8) (hi : i < 64) (hj : j < 64) : getL i (updL j v e) = if i = j then v else getL i e := by
  unfold getL updL
  rw [sel8_upd8 _ _ _ _ (by omega) (by omega)]
  by_cases h : i = j
  · subst h
    rw [if_pos rfl, if_pos rfl, sel8_upd8 _ _ _ _ (by omega) (by omega), if_pos rfl]
  · rw [if_neg h]
    by_cases h1 : i / 8 = j / 8
    · rw [if_pos h1, sel8_upd8 _ _ _ _ (by omega) (by omega), if_neg (by omega), h1]
    · rw [if_neg h1]

theorem getT_upd (N : Fr) (t : Nat) (v : V) (i : Nat) (hN : N.l.length ≤ 64) (hi : idx N.l t = some i) (u : Nat) (e : L8) : ∀ ρ : TL, u ≠ t → getT N u ρ (updL i v e) = getT N u ρ e
  | .n, hu => by
    unfold getT
    cases hj : idx N.l u with
    | none => rfl
    | some j =>
      have h1 := idx_lt _ _ _ hi; have h2 := idx_lt _ _ _ hj
      simp only
      rw [getL_updL _ _ _ _ (by omega) (by omega), if_neg fun k => by subst k; exact hu (idx_inj _ _ _ _ hj hi)]
  | .c z y r, hu => by
    unfold getT
    rw [getT_upd N t v i hN hi u e r hu]

theorem getT_e0 (N : Fr) (t : Nat) : getT N t .n e0 = V.u ∨ getT N t .n e0 = V.any := by
  unfold getT e0
  split
  · left; simp [getL, sel8_n8]
  · right; rfl

theorem sel8_zero {α : Type} (x : N8 α) : x.c0 = sel8 0 x := rfl
theorem u0_eq {α : Type} (v : α) (x : N8 α) : u0 v x = upd8 0 v x := rfl
theorem hget_eq (i : Nat) (t : T6) : hget i t = sel8 (i % 8) (sel8 (i / 8 % 8) (sel8 (i / 64 % 8) (sel8 (i / 512 % 8) (sel8 (i / 4096 % 8) (sel8 (i / 32768) t))))) := by
  unfold hget
  cases h1 : Nat.ble 64 i with
  | true =>
    cases h2 : Nat.ble 4096 i with
    | true => rfl
    | false =>
      have h2 : i < 4096 := Nat.not_le.1 fun k => by rw [Nat.ble_eq_true_of_le k] at h2; simp at h2
      rw [bs_true, bs_false, show i / 4096 % 8 = 0 from by omega, show i / 32768 = 0 from by omega, sel8_zero, sel8_zero]
      rfl
  | false =>
    have h1 : i < 64 := Nat.not_le.1 fun k => by rw [Nat.ble_eq_true_of_le k] at h1; simp at h1
    rw [bs_false, show i / 4096 % 8 = 0 from by omega, show i / 32768 = 0 from by omega, show i / 512 % 8 = 0 from by omega, show i / 64 % 8 = 0 from by omega, show i / 8 % 8 = i / 8 from by omega]
    rfl
theorem hset_eq (i : Nat) (b : Blk) (t : T6) : hset i b t = hset6 i b t := by
  unfold hset
  cases h1 : Nat.ble 64 i with
  | true =>
    cases h2 : Nat.ble 4096 i with
    | true => rfl
    | false =>
      have h2 : i < 4096 := Nat.not_le.1 fun k => by rw [Nat.ble_eq_true_of_le k] at h2; simp at h2
      rw [bs_true, bs_false]
      unfold hset6 hsetb
      rw [show Nat.mod (Nat.div i 4096) 8 = 0 from show i / 4096 % 8 = 0 from by omega, show Nat.div i 32768 = 0 from show i / 32768 = 0 from by omega]
      rfl
  | false =>
    have h1 : i < 64 := Nat.not_le.1 fun k => by rw [Nat.ble_eq_true_of_le k] at h1; simp at h1
    rw [bs_false]
    unfold hset6 hsetb hsetc hsetd
    rw [show Nat.mod (Nat.div i 4096) 8 = 0 from show i / 4096 % 8 = 0 from by omega, show Nat.div i 32768 = 0 from show i / 32768 = 0 from by omega, show Nat.mod (Nat.div i 512) 8 = 0 from show i / 512 % 8 = 0 from by omega, show Nat.mod (Nat.div i 64) 8 = 0 from show i / 64 % 8 = 0 from by omega]
    rfl

theorem hget_hset (i j : Nat) (b : Blk) (t : T6) (hi : i < 262144) (hj : j < 262144) : hget i (hset j b t) = if i = j then b else hget i t := by
  rw [hset_eq, hget_eq, hget_eq]
  unfold hset6 hsetb hsetc hsetd hsete hsetf
  show sel8 (i % 8) (sel8 (i / 8 % 8) (sel8 (i / 64 % 8) (sel8 (i / 512 % 8) (sel8 (i / 4096 % 8) (sel8 (i / 32768) (upd8 (j / 32768) (upd8 (j / 4096 % 8) (upd8 (j / 512 % 8) (upd8 (j / 64 % 8) (upd8 (j / 8 % 8) (upd8 (j % 8) b (sel8 (j / 8 % 8) (sel8 (j / 64 % 8) (sel8 (j / 512 % 8) (sel8 (j / 4096 % 8) (sel8 (j / 32768) t))))))
    (sel8 (j / 64 % 8) (sel8 (j / 512 % 8) (sel8 (j / 4096 % 8) (sel8 (j / 32768) t))))) (sel8 (j / 512 % 8) (sel8 (j / 4096 % 8) (sel8 (j / 32768) t)))) (sel8 (j / 4096 % 8) (sel8 (j / 32768) t))) (sel8 (j / 32768) t)) t)))))) = _
  rw [sel8_upd8 _ _ _ _ (by omega) (by omega)]
  by_cases h1 : i / 32768 = j / 32768
  · rw [if_pos h1, sel8_upd8 _ _ _ _ (by omega) (by omega)]
    by_cases h2 : i / 4096 % 8 = j / 4096 % 8
    · rw [if_pos h2, sel8_upd8 _ _ _ _ (by omega) (by omega)]
      by_cases h3 : i / 512 % 8 = j / 512 % 8
      · rw [if_pos h3, sel8_upd8 _ _ _ _ (by omega) (by omega)]
        by_cases h4 : i / 64 % 8 = j / 64 % 8
        · rw [if_pos h4, sel8_upd8 _ _ _ _ (by omega) (by omega)]
          by_cases h5 : i / 8 % 8 = j / 8 % 8
          · rw [if_pos h5, sel8_upd8 _ _ _ _ (by omega) (by omega)]
            by_cases h6 : i % 8 = j % 8
            · rw [if_pos h6, if_pos (by omega)]
            · rw [if_neg h6, if_neg (by omega), h1, h2, h3, h4, h5]
          · rw [if_neg h5, if_neg (by omega), h1, h2, h3, h4]
        · rw [if_neg h4, if_neg (by omega), h1, h2, h3]
      · rw [if_neg h3, if_neg (by omega), h1, h2]
    · rw [if_neg h2, if_neg (by omega), h1]
  · rw [if_neg h1, if_neg (by omega)]

theorem hget_t6 (i : Nat) : hget i t6 = .nb := by rw [hget_eq]; unfold t6; simp [sel8_n8]

theorem aget4_eq (i : Nat) (x : A4) (hi : i < 4096) : aget4 i x = sel8 (i % 8) (sel8 (i / 8 % 8) (sel8 (i / 64 % 8) (sel8 (i / 512) x))) := by
  unfold aget4
  cases h1 : Nat.ble 64 i with
  | true => rfl
  | false =>
    have h1 : i < 64 := Nat.not_le.1 fun k => by rw [Nat.ble_eq_true_of_le k] at h1; simp at h1
    rw [bs_false, show i / 512 = 0 from by omega, show i / 64 % 8 = 0 from by omega, show i / 8 % 8 = i / 8 from by omega]
    rfl
theorem aset4_eq (i : Nat) (v : V) (x : A4) (hi : i < 4096) : aset4 i v x = upd8 (i / 512) (upd8 (i / 64 % 8) (upd8 (i / 8 % 8) (upd8 (i % 8) v (sel8 (i / 8 % 8) (sel8 (i / 64 % 8) (sel8 (i / 512) x)))) (sel8 (i / 64 % 8) (sel8 (i / 512) x))) (sel8 (i / 512) x)) x := by
  unfold aset4
  cases h1 : Nat.ble 64 i with
  | true => rfl
  | false =>
    have h1 : i < 64 := Nat.not_le.1 fun k => by rw [Nat.ble_eq_true_of_le k] at h1; simp at h1
    rw [bs_false, show i / 512 = 0 from by omega, show i / 64 % 8 = 0 from by omega]
    rfl

theorem aget_aset (i j : Nat) (v : V) (a : Arr) (hi : i < acap a) (hj : j < acap a) : aget i (aset j v a) = if i = j then v else aget i a := by
  cases a with
  | a1 x =>
    have hi' : i < 8 := hi
    have hj' : j < 8 := hj
    exact sel8_upd8 _ _ _ _ hi' hj'
  | a4 x =>
    have hi' : i < 4096 := hi
    have hj' : j < 4096 := hj
    show aget4 i (aset4 j v x) = if i = j then v else aget4 i x
    rw [aget4_eq _ _ hi', aget4_eq _ _ hi', aset4_eq _ _ _ hj']
    rw [sel8_upd8 _ _ _ _ (by omega) (by omega)]
    by_cases h1 : i / 512 = j / 512
    · rw [if_pos h1, sel8_upd8 _ _ _ _ (by omega) (by omega)]
      by_cases h2 : i / 64 % 8 = j / 64 % 8
      · rw [if_pos h2, sel8_upd8 _ _ _ _ (by omega) (by omega)]
        by_cases h3 : i / 8 % 8 = j / 8 % 8
        · rw [if_pos h3, sel8_upd8 _ _ _ _ (by omega) (by omega)]
          by_cases h4 : i % 8 = j % 8
          · rw [if_pos h4, if_pos (by omega)]
          · rw [if_neg h4, if_neg (by omega), h1, h2, h3]
        · rw [if_neg h3, if_neg (by omega), h1, h2]
      · rw [if_neg h2, if_neg (by omega), h1]
    · rw [if_neg h1, if_neg (by omega)]

@[simp] theorem acap_aset (j : Nat) (v : V) (a : Arr) : acap (aset j v a) = acap a := by cases a <;> rfl
theorem acap_le (a : Arr) : acap a ≤ 4096 := by cases a <;> simp [acap]
theorem aget_agrow (i : Nat) (a : Arr) (hi : i < acap a) : aget i (agrow a) = aget i a := by
  cases a with
  | a1 x =>
    have hi' : i < 8 := hi
    have h : i = 0 ∨ i = 1 ∨ i = 2 ∨ i = 3 ∨ i = 4 ∨ i = 5 ∨ i = 6 ∨ i = 7 := by omega
    rcases h with rfl | rfl | rfl | rfl | rfl | rfl | rfl | rfl <;> rfl
  | a4 x => rfl
theorem acap_agrow (a : Arr) : acap (agrow a) = 4096 := by cases a <;> rfl
theorem aget_room (n i : Nat) (a : Arr) (hi : i < acap a) : aget i (room n a) = aget i a := by
  unfold room
  cases h : Nat.ble n (acap a)
  · exact aget_agrow i a hi
  · rfl
theorem acap_room (n : Nat) (a : Arr) (hn : n ≤ 4096) : n ≤ acap (room n a) := by
  unfold room
  cases h : Nat.ble n (acap a)
  · rw [bs_false, acap_agrow]; exact hn
  · rw [bs_true]; exact Nat.le_of_ble_eq_true h
theorem acap_room_ge (n : Nat) (a : Arr) : acap a ≤ acap (room n a) := by
  unfold room
  cases h : Nat.ble n (acap a)
  · rw [bs_false, acap_agrow]; exact acap_le a
  · rw [bs_true]; exact Nat.le_refl _
theorem acap_fresh (n : Nat) (hn : n ≤ 4096) : n ≤ acap (fresh n) := by
  unfold fresh
  cases h : Nat.ble n 8
  · rw [bs_false]; exact hn
  · rw [bs_true]; exact Nat.le_of_ble_eq_true h

/-! the relation -/
def owns (b : Blk) : Bool := match b with | .bk _ _ _ _ _ _ o => o | .mp _ => true | .it _ _ _ => true | .nb => false | .pin _ _ _ => false
def verOf (b : Blk) : Nat := match b with | .bk _ _ v _ _ _ _ => v | _ => 0

/-- a block of the world that is one of the run's own now -/
def Own (φ : Phi) (t : T6) (B : Nat) : Prop := ∃ id l, id < 262144 ∧ owns (hget id t) = true ∧ φ id (verOf (hget id t)) = some l ∧ l.B = B

/-- a map's entries -/
inductive ML (φ : Phi) : V → List MapEntry → Prop
  | nil {a b : V} : ML φ (.x .nil a b) []
  | cons {k v r : V} {e : MapEntry} {es : List MapEntry} : RV φ k e.key → RV φ v e.val → ML φ r es → ML φ (.x .cons (.x .cons k v) r) (e :: es)
theorem ML.mono {φ ψ : Phi} (h : φ.le ψ) {v : V} {c : List MapEntry} (r : ML φ v c) : ML ψ v c := by
  induction r with
  | nil => exact .nil
  | cons a b _ ih => exact .cons (a.mono h) (b.mono h) ih

/-- a value that is a type of the program's, as the model holds it -/
def pinV (a b c : Nat) : Value := .iface a (.agg #[.pointer (some ⟨b, c, none⟩)])
def BlkOk (φ : Phi) (w : World) (id : Nat) : Blk → Prop
  | .nb => True
  | .bk c size ver frz elem ex own => ∃ l cs fr, φ id ver = some l ∧ l.sz = size ∧ w.heap[l.B]? = some (.cells cs elem fr) ∧ l.bsz = cs.size ∧ l.base + size ≤ cs.size ∧ size ≤ acap c ∧
      (∀ i, i < size → ∃ v, cs[l.base + i]? = some v ∧ RV φ (aget i c) v ∧ v.oneCell' = true) ∧ (∀ v, ver < v → φ id v = none) ∧
      (own = true → ∀ i, frz ≤ i → l.base + i < cs.size → ¬ (fr.1 ≤ l.base + i ∧ l.base + i < fr.2)) ∧ (ex = true → l.base = 0 ∧ size = cs.size)
  | .mp kv => ∃ l es clock, φ id 0 = some l ∧ l.base = 0 ∧ w.heap[l.B]? = some (.map es clock) ∧ ML φ kv es.toList ∧ ∀ v, 0 < v → φ id v = none
  | .it n r pos => ∃ l s, φ id 0 = some l ∧ l.base = 0 ∧ w.heap[l.B]? = some (.stringIter s pos) ∧ s.size = n ∧ pos ≤ n ∧ pack (s.data.toList.drop pos) = r ∧ ∀ v, 0 < v → φ id v = none
  | .pin a b c => ∃ l elem fr, φ id 0 = some l ∧ l.base = 0 ∧ w.heap[l.B]? = some (.cells #[pinV a b c] elem fr) ∧ ∀ v, 0 < v → φ id v = none

structure Rel (φ : Phi) (h : H) (w : World) : Prop where
  next : h.next ≤ 262144
  dom : ∀ id v l, φ id v = some l → id < h.next ∧ l.B < w.heap.size ∧ l.base + l.sz ≤ l.bsz
  blk : ∀ id, id < 262144 → BlkOk φ w id (hget id h.tr)
  apart : ∀ i j, i < 262144 → j < 262144 → i ≠ j → owns (hget i h.tr) = true → hget j h.tr ≠ .nb → ∀ l m, φ i (verOf (hget i h.tr)) = some l → φ j (verOf (hget j h.tr)) = some m → l.B ≠ m.B

/-- a block of the world that the run sees now -/
def Vis (φ : Phi) (t : T6) (B : Nat) : Prop := ∃ id l, id < 262144 ∧ hget id t ≠ .nb ∧ φ id (verOf (hget id t)) = some l ∧ l.B = B

theorem Own.vis {φ : Phi} {t : T6} {B : Nat} (h : Own φ t B) : Vis φ t B :=
  let ⟨id, l, h1, h2, h3, h4⟩ := h; ⟨id, l, h1, fun k => by rw [k] at h2; simp [owns] at h2, h3, h4⟩

/-- what a step may turn -/
structure Ext (φ : Phi) (h : H) (w : World) (φ' : Phi) (h' : H) (w' : World) : Prop where
  le : φ.le φ'
  os : w'.os = w.os
  tape : w'.tape = w.tape
  output : w'.output = w.output
  size : w.heap.size ≤ w'.heap.size
  next : h.next ≤ h'.next
  own : ∀ B, B < w.heap.size → Own φ' h'.tr B → Own φ h.tr B
  vis : ∀ B, B < w.heap.size → Vis φ' h'.tr B → Vis φ h.tr B
  frame : ∀ B, B < w.heap.size → ¬ Own φ h.tr B → w'.heap[B]? = w.heap[B]?
  dead : ∀ id, id < h.next → hget id h.tr = .nb → hget id h'.tr = .nb ∧ ∀ v, φ' id v = φ id v

theorem Ext.refl (φ : Phi) (h : H) (w : World) : Ext φ h w φ h w := ⟨φ.le_refl, rfl, rfl, rfl, Nat.le_refl _, Nat.le_refl _, fun _ _ h => h, fun _ _ h => h, fun _ _ _ => rfl, fun _ _ h => ⟨h, fun _ => rfl⟩⟩
theorem Ext.trans {φ φ' φ'' : Phi} {t t' t'' : H} {w w' w'' : World} (a : Ext φ t w φ' t' w') (b : Ext φ' t' w' φ'' t'' w'') : Ext φ t w φ'' t'' w'' :=
  ⟨Phi.le_trans a.le b.le, b.os.trans a.os, b.tape.trans a.tape, b.output.trans a.output, Nat.le_trans a.size b.size, Nat.le_trans a.next b.next,
   fun B hB h => a.own B hB (b.own B (Nat.lt_of_lt_of_le hB a.size) h),
   fun B hB h => a.vis B hB (b.vis B (Nat.lt_of_lt_of_le hB a.size) h),
   fun B hB h => (b.frame B (Nat.lt_of_lt_of_le hB a.size) (fun k => h (a.own B hB k))).trans (a.frame B hB h),
   fun id hi hn => let ⟨h1, h2⟩ := a.dead id hi hn; let ⟨h3, h4⟩ := b.dead id (Nat.lt_of_lt_of_le hi a.next) h1; ⟨h3, fun v => (h4 v).trans (h2 v)⟩⟩

/-- the package-level variables that may be read lie where they should -/
def GlobOk (P : Program) (G : Nat → Bool) (φ : Phi) : Prop := ∀ g q, G g = true → P.globals[g]? = some q → ∃ l, φ g 0 = some l ∧ l.B = g ∧ l.base = 0 ∧ sizeT P q.type ≤ l.sz
theorem GlobOk.mono {P : Program} {G : Nat → Bool} {φ ψ : Phi} (h : φ.le ψ) (k : GlobOk P G φ) : GlobOk P G ψ :=
  fun g q a b => let ⟨l, e, r⟩ := k g q a b; ⟨l, h _ _ _ e, r⟩

/-- the frame: what is known of each place; and what lasts -/
structure RE (φ : Phi) (N : Fr) (ρ : TL) (e : L8) (a : Act) : Prop where
  size : a.tmps.size = N.n
  le : N.l.length ≤ 64
  at_ : ∀ t, t < N.n → ∃ v, a.tmps[t]? = some v ∧ RV φ (getT N t ρ e) v ∧ RV φ (getT N t .n e) v

theorem RE.mono {φ ψ : Phi} (h : φ.le ψ) {N : Fr} {ρ : TL} {e : L8} {a : Act} (r : RE φ N ρ e a) : RE ψ N ρ e a :=
  ⟨r.size, r.le, fun t ht => let ⟨v, e, q, p⟩ := r.at_ t ht; ⟨v, e, q.mono h, p.mono h⟩⟩

theorem RE.put {φ : Phi} {N : Fr} {ρ : TL} {e : L8} {a : Act} (r : RE φ N ρ e a) {d : Option Tmp} {v : V} {c : Value} {k : TL → L8 → Bool} (h : put N d v ρ e k = true) (hv : RV φ v c) : ∃ ρ' e', k ρ' e' = true ∧ RE φ N ρ' e' (a.put d c) := by
  cases d with
  | none => exact ⟨ρ, e, h, r⟩
  | some t =>
    simp only [Bvm.put] at h
    split at h
    rotate_left
    · simp at h
    rename_i ht
    have base : ∀ e', (∀ u, u ≠ t → getT N u ρ e' = getT N u ρ e ∧ getT N u .n e' = getT N u .n e) → (RV φ (getT N t .n e') c) → RE φ N (.c t v ρ) e' (a.put (some t) c) := fun e' hne heq => by
      refine ⟨by simp [Act.put, r.size], r.le, fun u hu => ?_⟩
      by_cases hut : u = t
      · subst hut
        refine ⟨c, by simp [Act.put, r.size, hu], ?_, heq⟩
        show RV φ (if u = u then v else _) c
        rw [if_pos rfl]; exact hv
      · obtain ⟨q, e1, e2, e3⟩ := r.at_ u hu
        obtain ⟨g1, g2⟩ := hne u hut
        refine ⟨q, by simp only [Act.put]; rw [Array.getElem?_setIfInBounds, if_neg (fun k => hut k.symm)]; exact e1, ?_, by rw [g2]; exact e3⟩
        show RV φ (if t = u then v else getT N u ρ e') q
        rw [if_neg (fun k => hut k.symm), g1]; exact e2
    split at h
    · rename_i i hi
      have hi64 := idx_lt _ _ _ hi
      have hle := r.le
      rw [putL_eq _ (by omega)] at h
      refine ⟨_, _, h, base _ (fun u hu => ⟨getT_upd N t v i hle hi u e ρ hu, getT_upd N t v i hle hi u e .n hu⟩) ?_⟩
      unfold getT
      rw [hi]
      simp only
      rw [getL_updL _ _ _ _ (by omega) (by omega), if_pos rfl]; exact hv
    · rename_i hi
      refine ⟨_, _, h, base _ (fun u hu => ⟨rfl, rfl⟩) ?_⟩
      unfold getT
      rw [hi]; exact .any

theorem RE.drop {φ : Phi} {N : Fr} {ρ : TL} {e : L8} {a : Act} (r : RE φ N ρ e a) : RE φ N .n e a :=
  ⟨r.size, r.le, fun t ht => let ⟨v, e1, _, e3⟩ := r.at_ t ht; ⟨v, e1, e3, e3⟩⟩

end Go.Bvm
