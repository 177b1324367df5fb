/- The abstract machine: a new block laid beside a run turns nothing in it. Conditions: none. -/
import Derived.Test.YtacpnpdggbfkgaaDoorBvmRet3
set_option linter.unusedVariables false
namespace Go.Bvm

/-! places beyond the tree's end -/
theorem sel8_min {α : Type} (d : Nat) (x : N8 α) : sel8 d x = sel8 (min d 7) x := by
  by_cases h : d ≤ 7
  · rw [Nat.min_eq_left h]
  · rw [Nat.min_eq_right (by omega)]
    unfold sel8 sel8a sel8c
    rw [Nat.ble_eq_true_of_le (show 4 ≤ d by omega), Nat.ble_eq_true_of_le (show 6 ≤ d by omega), Nat.ble_eq_true_of_le (show 7 ≤ d by omega)]
    rfl
theorem upd8_min {α : Type} (d : Nat) (v : α) (x : N8 α) : upd8 d v x = upd8 (min d 7) v x := by
  by_cases h : d ≤ 7
  · rw [Nat.min_eq_left h]
  · rw [Nat.min_eq_right (by omega)]
    unfold upd8 upd8a
    rw [Nat.ble_eq_true_of_le (show 4 ≤ d by omega), Nat.ble_eq_true_of_le (show 6 ≤ d by omega), Nat.ble_eq_true_of_le (show 7 ≤ d by omega)]
    rfl
/-- the place within the tree -/
def cl (i : Nat) : Nat := min (i / 32768) 7 * 32768 + i % 32768
theorem cl_lt (i : Nat) : cl i < 262144 := by unfold cl; omega
theorem cl_id {i : Nat} (h : i < 262144) : cl i = i := by unfold cl; omega
theorem hget_cl (i : Nat) (t : T6) : hget i t = hget (cl i) t := by
  rw [hget_eq, hget_eq, sel8_min (i / 32768)]
  have : cl i / 32768 = min (i / 32768) 7 := by unfold cl; omega
  rw [this, show cl i / 4096 % 8 = i / 4096 % 8 from by unfold cl; omega, show cl i / 512 % 8 = i / 512 % 8 from by unfold cl; omega, show cl i / 64 % 8 = i / 64 % 8 from by unfold cl; omega, show cl i / 8 % 8 = i / 8 % 8 from by unfold cl; omega, show cl i % 8 = i % 8 from by unfold cl; omega]
theorem hset_cl (i : Nat) (b : Blk) (t : T6) : hset i b t = hset (cl i) b t := by
  rw [hset_eq, hset_eq]
  unfold hset6 hsetb hsetc hsetd hsete hsetf
  show upd8 (i / 32768) (upd8 (i / 4096 % 8) (upd8 (i / 512 % 8) (upd8 (i / 64 % 8) (upd8 (i / 8 % 8) (upd8 (i % 8) b (sel8 (i / 8 % 8) (sel8 (i / 64 % 8) (sel8 (i / 512 % 8) (sel8 (i / 4096 % 8) (sel8 (i / 32768) t))))))
    (sel8 (i / 64 % 8) (sel8 (i / 512 % 8) (sel8 (i / 4096 % 8) (sel8 (i / 32768) t))))) (sel8 (i / 512 % 8) (sel8 (i / 4096 % 8) (sel8 (i / 32768) t)))) (sel8 (i / 4096 % 8) (sel8 (i / 32768) t))) (sel8 (i / 32768) t)) t
    = upd8 (cl i / 32768) (upd8 (cl i / 4096 % 8) (upd8 (cl i / 512 % 8) (upd8 (cl i / 64 % 8) (upd8 (cl i / 8 % 8) (upd8 (cl i % 8) b (sel8 (cl i / 8 % 8) (sel8 (cl i / 64 % 8) (sel8 (cl i / 512 % 8) (sel8 (cl i / 4096 % 8) (sel8 (cl i / 32768) t))))))
    (sel8 (cl i / 64 % 8) (sel8 (cl i / 512 % 8) (sel8 (cl i / 4096 % 8) (sel8 (cl i / 32768) t))))) (sel8 (cl i / 512 % 8) (sel8 (cl i / 4096 % 8) (sel8 (cl i / 32768) t)))) (sel8 (cl i / 4096 % 8) (sel8 (cl i / 32768) t))) (sel8 (cl i / 32768) t)) t
  rw [show cl i / 32768 = min (i / 32768) 7 from by unfold cl; omega, show cl i / 4096 % 8 = i / 4096 % 8 from by unfold cl; omega, show cl i / 512 % 8 = i / 512 % 8 from by unfold cl; omega, show cl i / 64 % 8 = i / 64 % 8 from by unfold cl; omega, show cl i / 8 % 8 = i / 8 % 8 from by unfold cl; omega, show cl i % 8 = i % 8 from by unfold cl; omega, ← upd8_min, ← sel8_min]
theorem hget_set (i j : Nat) (b : Blk) (t : T6) : hget i (hset j b t) = if cl i = cl j then b else hget i t := by
  rw [hget_cl, hset_cl, hget_hset _ _ _ _ (cl_lt i) (cl_lt j), ← hget_cl]

/-- trees are what they hold -/
theorem n8_ext {α : Type} {x y : N8 α} (h : ∀ d, d < 8 → sel8 d x = sel8 d y) : x = y := by
  have h0 : x.c0 = y.c0 := h 0 (by omega)
  have h1 : x.c1 = y.c1 := h 1 (by omega)
  have h2 : x.c2 = y.c2 := h 2 (by omega)
  have h3 : x.c3 = y.c3 := h 3 (by omega)
  have h4 : x.c4 = y.c4 := h 4 (by omega)
  have h5 : x.c5 = y.c5 := h 5 (by omega)
  have h6 : x.c6 = y.c6 := h 6 (by omega)
  have h7 : x.c7 = y.c7 := h 7 (by omega)
  cases x; cases y; simp only at h0 h1 h2 h3 h4 h5 h6 h7
  subst h0 h1 h2 h3 h4 h5 h6 h7; rfl
theorem t6_ext {s t : T6} (h : ∀ i, i < 262144 → hget i s = hget i t) : s = t := by
  refine n8_ext fun a ha => n8_ext fun b hb => n8_ext fun c hc => n8_ext fun d hd => n8_ext fun e he => n8_ext fun f hf => ?_
  have := h (a * 32768 + b * 4096 + c * 512 + d * 64 + e * 8 + f) (by omega)
  rw [hget_eq, hget_eq] at this
  rw [show (a * 32768 + b * 4096 + c * 512 + d * 64 + e * 8 + f) / 32768 = a from by omega, show (a * 32768 + b * 4096 + c * 512 + d * 64 + e * 8 + f) / 4096 % 8 = b from by omega, show (a * 32768 + b * 4096 + c * 512 + d * 64 + e * 8 + f) / 512 % 8 = c from by omega,
    show (a * 32768 + b * 4096 + c * 512 + d * 64 + e * 8 + f) / 64 % 8 = d from by omega, show (a * 32768 + b * 4096 + c * 512 + d * 64 + e * 8 + f) / 8 % 8 = e from by omega, show (a * 32768 + b * 4096 + c * 512 + d * 64 + e * 8 + f) % 8 = f from by omega] at this
  exact this
theorem hset_comm {i j : Nat} (h : cl i ≠ cl j) (b c : Blk) (t : T6) : hset i b (hset j c t) = hset j c (hset i b t) := by
  refine t6_ext fun k hk => ?_
  rw [hget_set, hget_set, hget_set, hget_set]
  by_cases h1 : cl k = cl i
  · rw [if_pos h1, if_neg (by omega), if_pos h1]
  · rw [if_neg h1, if_neg h1]
theorem l8_ext {e f : L8} (h : ∀ i, i < 64 → getL i e = getL i f) : e = f := by
  refine n8_ext fun a ha => n8_ext fun b hb => ?_
  have := h (a * 8 + b) (by omega)
  unfold getL at this
  rw [show (a * 8 + b) % 8 = b from by omega, show (a * 8 + b) / 8 = a from by omega] at this
  exact this
theorem updL_comm {i j : Nat} (hi : i < 64) (hj : j < 64) (h : i ≠ j) (v u : V) (e : L8) : updL i v (updL j u e) = updL j u (updL i v e) := by
  refine l8_ext fun k hk => ?_
  rw [getL_updL _ _ _ _ hk hi, getL_updL _ _ _ _ hk hj, getL_updL _ _ _ _ hk hj, getL_updL _ _ _ _ hk hi]
  by_cases h1 : k = i
  · rw [if_pos h1, if_neg (by omega), if_pos h1]
  · rw [if_neg h1, if_neg h1]

/-- a block laid into memory -/
noncomputable def H.ins (h : H) (r : Nat) (b : Blk) : H := ⟨h.next, hset r b h.tr⟩
/-- place r is kept, and nothing lies there -/
structure Kept (r : Nat) (h : H) : Prop where
  lt : r < 262144
  next : r < h.next
  nb : hget r h.tr = .nb

/-- no answer; or one, and the same one with a block more -/
def FrmAt {α : Type} (r : Nat) (F : H → (α → H → Bool) → Bool) (h : H) : Prop :=
  (∀ k, F h k = false) ∨ ∃ a h1, (∀ k, F h k = k a h1) ∧ Kept r h1 ∧ ∀ b k, F (h.ins r b) k = k a (h1.ins r b)
def FrmG {α : Type} (r : Nat) (F : H → (α → H → Bool) → Bool) : Prop := ∀ h, Kept r h → FrmAt r F h

section
variable {α β : Type} {r : Nat} {h : H}
theorem FrmAt.no : FrmAt r (fun (_ : H) (_ : α → H → Bool) => false) h := .inl fun _ => rfl
theorem FrmG.no : FrmG r (fun (_ : H) (_ : α → H → Bool) => false) := fun h _ => .no
theorem FrmAt.k (hk : Kept r h) (a : α) : FrmAt r (fun (h : H) (k : α → H → Bool) => k a h) h := .inr ⟨a, h, fun _ => rfl, hk, fun _ _ => rfl⟩
theorem FrmG.k (a : α) : FrmG r (fun (h : H) (k : α → H → Bool) => k a h) := fun h hk => .k hk a
theorem FrmAt.pure {G : (α → Bool) → Bool} (hG : RetG G) (hk : Kept r h) : FrmAt r (fun (h : H) (k : α → H → Bool) => G fun a => k a h) h := by
  rcases hG with e | ⟨a, e⟩
  · exact .inl fun k => e _
  · exact .inr ⟨a, h, fun k => e _, hk, fun b k => e _⟩
theorem FrmG.pure {G : (α → Bool) → Bool} (hG : RetG G) : FrmG r (fun (h : H) (k : α → H → Bool) => G fun a => k a h) := fun h hk => .pure hG hk
theorem FrmAt.bind {F : H → (β → H → Bool) → Bool} {f : β → H → (α → H → Bool) → Bool} (hF : FrmAt r F h) (hf : ∀ b h, Kept r h → FrmAt r (f b) h) : FrmAt r (fun h k => F h fun b h' => f b h' k) h := by
  rcases hF with e | ⟨a, h1, e, k1, e2⟩
  · exact .inl fun k => e _
  · rcases hf a h1 k1 with e3 | ⟨c, h2, e3, k2, e4⟩
    · exact .inl fun k => (e _).trans (e3 k)
    · exact .inr ⟨c, h2, fun k => (e _).trans (e3 k), k2, fun b k => (e2 b _).trans (e4 b k)⟩
theorem FrmG.bind {F : H → (β → H → Bool) → Bool} {f : β → H → (α → H → Bool) → Bool} (hF : FrmG r F) (hf : ∀ b, FrmG r (f b)) : FrmG r (fun h k => F h fun b h' => f b h' k) :=
  fun h hk => .bind (hF h hk) fun b h hk => hf b h hk
/-- what looks at memory first, and what it finds is the same -/
theorem FrmAt.both {c : H → Bool} {F : H → (α → H → Bool) → Bool} (hc : ∀ b, c (h.ins r b) = c h) (hF : c h = true → FrmAt r F h) : FrmAt r (fun h k => both (c h) (F h k)) h := by
  cases e : c h with
  | false => exact .inl fun k => by show Bvm.both (c h) _ = false; rw [e]; rfl
  | true =>
    rcases hF e with e1 | ⟨a, h1, e1, k1, e2⟩
    · exact .inl fun k => by show Bvm.both (c h) _ = false; rw [e]; exact e1 k
    · exact .inr ⟨a, h1, fun k => by show Bvm.both (c h) _ = _; rw [e]; exact e1 k, k1, fun b k => by show Bvm.both (c (h.ins r b)) _ = _; rw [hc, e]; exact e2 b k⟩
theorem FrmAt.bs {c : Bool} {F F' : H → (α → H → Bool) → Bool} (hF : FrmAt r F h) (hF' : FrmAt r F' h) : FrmAt r (fun h k => bs c (F h k) (F' h k)) h := by
  cases c
  · exact hF'
  · exact hF
theorem FrmAt.onP {v : V} {f : Nat → Nat → Nat → Nat → H → (α → H → Bool) → Bool} (hf : ∀ a b c d, FrmAt r (f a b c d) h) : FrmAt r (fun h k => onP v fun a b c d => f a b c d h k) h := by
  cases v <;> first | exact .no | exact hf _ _ _ _
theorem FrmAt.onS {v : V} {f : Nat → Nat → H → (α → H → Bool) → Bool} (hf : ∀ a b, FrmAt r (f a b) h) : FrmAt r (fun h k => onS v fun a b => f a b h k) h := by
  cases v <;> first | exact .no | exact hf _ _
theorem FrmAt.onSl {v : V} {g : H → (α → H → Bool) → Bool} {f : Nat → Nat → Nat → Nat → Nat → H → (α → H → Bool) → Bool} (hn : FrmAt r g h) (hf : ∀ a b c d e, FrmAt r (f a b c d e) h) : FrmAt r (fun h k => onSl v (g h k) fun a b c d e => f a b c d e h k) h := by
  cases v with
  | sl a b c d e => exact hf _ _ _ _ _
  | x t a b => cases t <;> first | exact .no | exact hn
  | _ => exact .no
theorem FrmAt.onW {v : V} {f : Nat → H → (α → H → Bool) → Bool} (hf : ∀ a, FrmAt r (f a) h) : FrmAt r (fun h k => onW v fun a => f a h k) h := by
  cases v <;> first | exact .no | exact hf _
theorem FrmAt.onFn {v : V} {f : Nat → V → V → H → (α → H → Bool) → Bool} (hf : ∀ a b c, FrmAt r (f a b c) h) : FrmAt r (fun h k => onFn v fun a b c => f a b c h k) h := by
  cases v with
  | x t a b => cases t <;> first | exact .no | exact hf _ _ _
  | _ => exact .no
theorem FrmAt.un {q : Operand → Option V} {x : Operand} {f : V → H → (α → H → Bool) → Bool} (hf : ∀ a, FrmAt r (f a) h) : FrmAt r (fun h k => un q x fun a => f a h k) h := by
  unfold Bvm.un
  cases q x
  · exact .no
  · exact hf _
theorem FrmAt.bi {q : Operand → Option V} {x y : Operand} {f : V → V → H → (α → H → Bool) → Bool} (hf : ∀ a b, FrmAt r (f a b) h) : FrmAt r (fun h k => bi q x y fun a b => f a b h k) h := by
  unfold Bvm.bi
  cases q x <;> cases q y <;> first | exact .no | exact hf _ _
/-- a block that lies there is not the one that is kept -/
theorem Kept.ne {id : Nat} (hk : Kept r h) (hn : hget id h.tr ≠ .nb) : cl id ≠ cl r := fun e => hn (by rw [hget_cl, e, ← hget_cl]; exact hk.nb)
theorem Kept.ins_get {id : Nat} (hn : cl id ≠ cl r) (b : Blk) : hget id (h.ins r b).tr = hget id h.tr := by
  show hget id (hset r b h.tr) = _
  rw [hget_set, if_neg hn]
theorem FrmAt.onBk {id : Nat} {f : Arr → Nat → Nat → Nat → Nat → Bool → Bool → H → (α → H → Bool) → Bool} (hk : Kept r h) (hf : ∀ a b c d e g i, cl id ≠ cl r → FrmAt r (f a b c d e g i) h) : FrmAt r (fun h k => onBk (hget id h.tr) fun a b c d e g i => f a b c d e g i h k) h := by
  cases e : hget id h.tr with
  | bk a b c d e1 g i =>
    have hne := hk.ne (id := id) (by rw [e]; simp)
    rcases hf a b c d e1 g i hne with e2 | ⟨u, h1, e2, k1, e3⟩
    · exact .inl fun k => by dsimp only; rw [e]; exact e2 k
    · exact .inr ⟨u, h1, fun k => by dsimp only; rw [e]; exact e2 k, k1, fun b' k => by dsimp only; rw [Kept.ins_get hne, e]; exact e3 b' k⟩
  | nb => exact .inl fun k => by dsimp only; rw [e]; rfl
  | mp _ => exact .inl fun k => by dsimp only; rw [e]; rfl
  | pin _ _ _ => exact .inl fun k => by dsimp only; rw [e]; rfl
  | it _ _ _ => exact .inl fun k => by dsimp only; rw [e]; rfl
theorem FrmAt.onIt {id : Nat} {f : Nat → Nat → Nat → H → (α → H → Bool) → Bool} (hk : Kept r h) (hf : ∀ a b c, cl id ≠ cl r → FrmAt r (f a b c) h) : FrmAt r (fun h k => Bvm.onIt (hget id h.tr) fun a b c => f a b c h k) h := by
  cases e : hget id h.tr with
  | it a b c =>
    have hne := hk.ne (id := id) (by rw [e]; simp)
    rcases hf a b c hne with e2 | ⟨u, h1, e2, k1, e3⟩
    · exact .inl fun k => by dsimp only; rw [e]; exact e2 k
    · exact .inr ⟨u, h1, fun k => by dsimp only; rw [e]; exact e2 k, k1, fun b' k => by dsimp only; rw [Kept.ins_get hne, e]; exact e3 b' k⟩
  | nb => exact .inl fun k => by dsimp only; rw [e]; rfl
  | mp _ => exact .inl fun k => by dsimp only; rw [e]; rfl
  | pin _ _ _ => exact .inl fun k => by dsimp only; rw [e]; rfl
  | bk _ _ _ _ _ _ _ => exact .inl fun k => by dsimp only; rw [e]; rfl
theorem FrmAt.onMp {id : Nat} {f : V → H → (α → H → Bool) → Bool} (hk : Kept r h) (hf : ∀ a, cl id ≠ cl r → FrmAt r (f a) h) : FrmAt r (fun h k => Bvm.onMp (hget id h.tr) fun a => f a h k) h := by
  cases e : hget id h.tr with
  | mp a =>
    have hne := hk.ne (id := id) (by rw [e]; simp)
    rcases hf a hne with e2 | ⟨u, h1, e2, k1, e3⟩
    · exact .inl fun k => by dsimp only; rw [e]; exact e2 k
    · exact .inr ⟨u, h1, fun k => by dsimp only; rw [e]; exact e2 k, k1, fun b' k => by dsimp only; rw [Kept.ins_get hne, e]; exact e3 b' k⟩
  | nb => exact .inl fun k => by dsimp only; rw [e]; rfl
  | it _ _ _ => exact .inl fun k => by dsimp only; rw [e]; rfl
  | pin _ _ _ => exact .inl fun k => by dsimp only; rw [e]; rfl
  | bk _ _ _ _ _ _ _ => exact .inl fun k => by dsimp only; rw [e]; rfl
theorem FrmAt.onMap {v : V} {g : H → (α → H → Bool) → Bool} {f : Nat → H → (α → H → Bool) → Bool} (hn : FrmAt r g h) (hf : ∀ a, FrmAt r (f a) h) : FrmAt r (fun h k => Bvm.onMap v (g h k) fun a => f a h k) h := by
  cases v with
  | x t a b => cases t <;> first | exact .no | exact hn | exact hf _
  | _ => exact .no
theorem FrmAt.fndK {l n : Nat} {yes : V → H → (α → H → Bool) → Bool} {no : H → (α → H → Bool) → Bool} (hy : ∀ v, FrmAt r (yes v) h) (hn : FrmAt r no h) : ∀ kv : V, FrmAt r (fun h k => Bvm.fndK l n kv (fun v => yes v h k) (no h k)) h := by
  intro kv
  induction kv with
  | x g e t _ ih =>
    cases g <;> first | exact .no | exact hn | skip
    show FrmAt r (fun h k => Bvm.onCons e fun key val => Bvm.onS key fun l' n' => Bvm.bs (seqB l n l' n') (yes val h k) (Bvm.fndK l n t (fun v => yes v h k) (no h k))) h
    cases e with
    | x g key val =>
      cases g <;> first | exact .no | skip
      cases key <;> first | exact .no | skip
      rename_i l' n' _
      show FrmAt r (fun h k => Bvm.bs (seqB l n l' n') (yes val h k) (Bvm.fndK l n t (fun v => yes v h k) (no h k))) h
      cases seqB l n l' n'
      · exact ih
      · exact hy _
    | _ => exact .no
  | _ => exact .no
theorem FrmAt.wr {id : Nat} (hk : Kept r h) (hne : cl id ≠ cl r) (a : α) (b : Blk) : FrmAt r (fun (h : H) (k : α → H → Bool) => k a ⟨h.next, hset id b h.tr⟩) h := by
  refine .inr ⟨a, _, fun k => rfl, ⟨hk.lt, hk.next, ?_⟩, fun b' k => ?_⟩
  · rw [hget_set, if_neg (fun e => hne e.symm)]; exact hk.nb
  · show k a ⟨h.next, hset id b (hset r b' h.tr)⟩ = k a ⟨h.next, hset r b' (hset id b h.tr)⟩
    rw [hset_comm hne]
end

variable {P : Program} {G : Nat → Bool} {N : Fr} {q : Operand → Option V} {r : Nat}
theorem frm_lop (o : Op) : FrmG r (fun h (k : V → H → Bool) => lop P q o h fun v => k v h) := by
  intro h hk
  unfold lop
  split
  · split
    · refine .un fun a => ?_
      split
      · exact .onP fun id off lim ver => .onBk hk fun c s bver f e x o hne => .both (fun _ => rfl) fun _ => .both (fun _ => rfl) fun _ => .k hk _
      · exact .onP fun id off lim ver => .onBk hk fun c s bver f e x o hne => .both (fun _ => rfl) fun _ => .both (fun _ => rfl) fun _ => .k hk _
    · exact .no
  · split
    · split
      · refine .un fun a => ?_
        exact .onSl (.k hk _) fun id off len ver es => .both (fun _ => rfl) fun _ => .onBk hk fun c s bver f e x o hne => .both (fun _ => rfl) fun _ =>
          .pure (G := fun k => packA c len off fun r => k (V.s len r)) (RetG.bind (F := packA c len off) (f := fun r (k : V → Bool) => k (.s len r)) (ret_packA c len off) fun r => .k _) hk
      · exact .no
    · split
      · exact .no
      · exact .un fun a => .bs (.k hk _) (.onP fun id off lim ver => .onBk hk fun c size bver frz elem ex own hne => .both (fun _ => rfl) fun _ => .both (fun _ => rfl) fun _ => .k hk _)
    · split
      · split
        · exact .no
        · exact .un fun a => .bs (.k hk _) (.onP fun id off lim ver => .onBk hk fun c size bver frz elem ex own hne => .both (fun _ => rfl) fun _ => .both (fun _ => rfl) fun _ => .both (fun _ => rfl) fun _ => .both (c := fun _ => ex) (fun _ => rfl) fun _ => .both (fun _ => rfl) fun _ => .k hk _)
      · exact .no
    · exact .no
  · split
    · split
      · split
        · split
          · exact .bi fun u v => .onS fun l n => .onMap (.k hk _) fun id => .onMp hk fun kv hne => FrmAt.fndK (yes := fun v h k => k (mpR _ v true) h) (no := fun h k => k (mpR _ _ false) h) (fun v => .k hk _) (.k hk _) kv
          · exact .no
        · exact .no
      · exact .no
    · exact .no
  · exact .no

theorem frm_aop (o : Op) {id : Nat} (hne : cl id ≠ cl r) : FrmG r (fun h (k : V → H → Bool) => aop P q o id h k) := by
  intro h hk
  rcases ret_aop (P := P) (q := q) o id with e | ⟨v, b, e⟩
  · exact .inl fun k => e _ _
  · have e2 : (fun (h : H) (k : V → H → Bool) => aop P q o id h k) = fun h k => k v ⟨h.next, hset id b h.tr⟩ := by funext h k; exact e h k
    rw [e2]; exact .wr hk hne v b

/-- what is appended, read from memory -/
theorem frm_onSrc (esz : Nat) (v : V) {h : H} (hk : Kept r h) : FrmAt r (fun h (k : (Nat × (Nat → Arr → Arr)) → H → Bool) => onSrc esz v h fun n s => k (n, s) h) h := by
  cases v with
  | s l n => exact .both (c := fun _ => Nat.beq esz 1) (F := fun h k => k (l, fun j c => abytes l n j c) h) (fun _ => rfl) fun _ => .k hk _
  | sl id off len ver es =>
    exact .both (c := fun _ => Nat.beq es esz) (F := fun h k => onBk (hget id h.tr) fun c size bver _ _ _ _ => both (Nat.beq ver bver) (k (len, fun j c' => acopy c (len * esz) off j c') h)) (fun _ => rfl) fun _ =>
      .onBk hk fun c s bver f e x o hne => .both (fun _ => rfl) fun _ => .k hk _
  | x g a b => cases g <;> first | exact .inl fun _ => rfl | exact .k hk ((0 : Nat), fun (_ : Nat) (c : Arr) => c)
  | _ => exact .inl fun _ => rfl

theorem frm_app (esz elem : Nat) (x y : V) : FrmG r (fun h (k : V → H → Bool) => app esz elem x y h k) := by
  intro h hk
  refine .both (c := fun _ => Nat.ble 1 esz) (fun _ => rfl) fun _ => ?_
  refine .bind (F := fun h (k : (Nat × (Nat → Arr → Arr)) → H → Bool) => onSrc esz y h fun n s => k (n, s) h)
    (f := fun z h (k : V → H → Bool) => bs (Nat.beq z.1 0) (onSl x (k x h) (fun _ _ _ _ _ => k x h))
    (onSl x
      (both (Nat.ble (z.1 * esz) 4096) (both (Nat.ble (h.next + 1) 262144) (k (.sl h.next 0 z.1 0 esz) ⟨h.next + 1, hset h.next (.bk (z.2 0 (fresh (z.1 * esz))) (z.1 * esz) 0 0 elem false true) h.tr⟩)))
      fun id off len ver es => both (Nat.beq es esz) (onBk (hget id h.tr) fun c size bver frz el ex own =>
        both own (both (Nat.beq ver bver) (both (both (Nat.beq el elem) (Nat.ble frz (off + len * esz)))
          (bs (both (Nat.beq off 0) (Nat.beq (len * esz) size))
            (both (Nat.ble (size + z.1 * esz) 4096) (k (.sl id 0 (len + z.1) (ver + 1) esz) ⟨h.next, hset id (.bk (z.2 size (room (size + z.1 * esz) c)) (size + z.1 * esz) (ver + 1) frz elem false true) h.tr⟩))
            (both (Nat.ble (len * esz + z.1 * esz) 4096) (both (Nat.ble (h.next + 1) 262144) (k (.sl h.next 0 (len + z.1) 0 esz)
              ⟨h.next + 1, hset h.next (.bk (z.2 (len * esz) (acopy c (len * esz) off 0 (fresh (len * esz + z.1 * esz)))) (len * esz + z.1 * esz) 0 frz elem false true) (hset id .nb h.tr)⟩)))))))))
    (frm_onSrc esz y hk) ?_
  intro z h hk
  have hn : ∀ h : H, Kept r h → Nat.ble (h.next + 1) 262144 = true → cl h.next ≠ cl r := fun h hk e => by
    have e1 := ble_true e
    have := hk.next; have := hk.lt
    rw [cl_id (by omega), cl_id (by omega)]; omega
  refine .bs (.onSl (.k hk _) fun _ _ _ _ _ => .k hk _) (.onSl ?_ ?_)
  · refine .both (c := fun _ => Nat.ble (z.1 * esz) 4096) (fun _ => rfl) fun _ => .both (c := fun h => Nat.ble (h.next + 1) 262144) (fun _ => rfl) fun e => ?_
    have hne := hn h hk e
    refine .inr ⟨_, _, fun k => rfl, ⟨hk.lt, by have := hk.next; show r < h.next + 1; omega, ?_⟩, fun b k => ?_⟩
    · show hget r (hset h.next _ h.tr) = _
      rw [hget_set, if_neg (fun e => hne e.symm)]; exact hk.nb
    · show k _ (⟨h.next + 1, hset h.next _ (hset r b h.tr)⟩ : H) = k _ (⟨h.next + 1, hset r b (hset h.next _ h.tr)⟩ : H)
      rw [hset_comm hne]; rfl
  · intro id off len ver es
    refine .both (c := fun _ => Nat.beq es esz) (fun _ => rfl) fun _ => .onBk hk fun c size bver frz el ex own hid => ?_
    refine .both (c := fun _ => own) (fun _ => rfl) fun _ => .both (c := fun _ => Nat.beq ver bver) (fun _ => rfl) fun _ => .both (c := fun _ => both (Nat.beq el elem) (Nat.ble frz (off + len * esz))) (fun _ => rfl) fun _ => .bs ?_ ?_
    · exact .both (c := fun _ => Nat.ble (size + z.1 * esz) 4096) (fun _ => rfl) fun _ => .wr hk hid _ _
    · refine .both (c := fun _ => Nat.ble (len * esz + z.1 * esz) 4096) (fun _ => rfl) fun _ => .both (c := fun h => Nat.ble (h.next + 1) 262144) (fun _ => rfl) fun e => ?_
      have hne := hn h hk e
      refine .inr ⟨_, _, fun k => rfl, ⟨hk.lt, by have := hk.next; show r < h.next + 1; omega, ?_⟩, fun b k => ?_⟩
      · show hget r (hset h.next _ (hset id .nb h.tr)) = _
        rw [hget_set, if_neg (fun e => hne e.symm), hget_set, if_neg (fun e => hid e.symm)]; exact hk.nb
      · show k _ (⟨h.next + 1, hset h.next _ (hset id .nb (hset r b h.tr))⟩ : H) = k _ (⟨h.next + 1, hset r b (hset h.next _ (hset id .nb h.tr))⟩ : H)
        rw [hset_comm hid, hset_comm hne]; rfl

theorem frm_st (one : Bool) (n : Nat) (x y : V) : FrmG r (fun h (k : V → H → Bool) => st one n x y h k) := by
  intro h hk
  refine .onP fun id off lim ver => .onBk hk fun c size bver frz elem ex own hne => ?_
  refine .both (c := fun _ => own) (fun _ => rfl) fun _ => .both (c := fun _ => Nat.beq ver bver) (fun _ => rfl) fun _ => .both (c := fun _ => Nat.ble (Nat.add off n) lim) (fun _ => rfl) fun _ => .both (c := fun _ => Nat.ble frz off) (fun _ => rfl) fun _ => ?_
  exact .bind (F := fun h (k : Arr → H → Bool) => layV one y n off c fun c' => k c' h) (f := fun c' h (k : V → H → Bool) => k V.u ⟨h.next, hset id (.bk c' size bver frz elem ex own) h.tr⟩)
    (.pure (G := layV one y n off c) (ret_layV _ _ _ _ _) hk) fun c' h hk => .wr hk hne _ _

theorem frm_usS (e : Nat) (x y : V) : FrmG r (fun h (k : V → H → Bool) => usS e x y h k) := by
  intro h hk
  refine .onW fun m => .both (c := fun _ => Nat.ble bias m) (fun _ => rfl) fun _ => .bs (.bs (.k hk _) (.onP fun _ _ _ _ => .k hk _)) (.onP fun id off lim ver => .onBk hk fun c size bver frz elem ex own hne => ?_)
  refine .both (c := fun _ => own) (fun _ => rfl) fun _ => .both (c := fun _ => Nat.beq ver bver) (fun _ => rfl) fun _ => .both (c := fun _ => Nat.ble (off + (m - bias)) lim) (fun _ => rfl) fun _ => .both (c := fun _ => both (Nat.beq elem e) (Nat.ble (m - bias) 1000000000)) (fun _ => rfl) fun _ => ?_
  exact .bind (F := fun h (k : Nat → H → Bool) => packA c (m - bias) off fun r => k r h) (f := fun z h (k : V → H → Bool) => k (.s (m - bias) z) ⟨h.next, hset id (.bk c size bver frz elem ex false) h.tr⟩)
    (.pure (G := packA c (m - bias) off) (ret_packA _ _ _) hk) fun z h hk => .wr hk hne _ _

theorem frm_cvS (x : V) : FrmG r (fun h (k : V → H → Bool) => cvS x h k) := by
  intro h hk
  exact .onSl .no fun id off len ver es => .both (c := fun _ => Nat.ble 1 len) (fun _ => rfl) fun _ => .onBk hk fun c size bver frz elem ex own hne => .both (c := fun _ => own) (fun _ => rfl) fun _ => .both (c := fun _ => Nat.beq ver bver) (fun _ => rfl) fun _ => .wr hk hne _ _

theorem frm_itN (x : V) : FrmG r (fun h (k : V → H → Bool) => itN x h k) := by
  intro h hk
  refine .onP fun id off lim ver => .both (c := fun _ => Nat.beq off 0) (fun _ => rfl) fun _ => .both (c := fun _ => Nat.beq ver 0) (fun _ => rfl) fun _ => .onIt hk fun l n pos hne => .both (c := fun _ => Nat.ble l 1000000000) (fun _ => rfl) fun _ => .bs (.k hk _) (.both (c := fun _ => Nat.ble (Nat.mod n 256) 127) (fun _ => rfl) fun _ => .wr hk hne _ _)
theorem frm_mpI (x y z : V) : FrmG r (fun h (k : V → H → Bool) => mpI x y z h k) := by
  intro h hk
  exact .onMap .no fun id => .onS fun l n => .onMp hk fun kv hne => FrmAt.fndK (yes := fun _ _ _ => false) (no := fun h k => k V.u ⟨h.next, hset id (.mp (vapp kv (.x .cons (.x .cons y z) V.nil))) h.tr⟩) (fun _ => .no) (.wr hk hne _ _) kv

def CallFrm (r : Nat) (cf : CallF) : Prop := ∀ f l, FrmG r (fun h (k : V → H → Bool) => cf f l h k)

theorem frm_fop {cf : CallF} (hcf : CallFrm r cf) (o : Op) : FrmG r (fun h (k : V → H → Bool) => fop P cf q o h k) := by
  intro h hk
  unfold fop
  split
  · split
    · exact .bi fun a b => frm_st _ _ _ _ h hk
    · exact .no
  · split
    · exact hcf _ _ h hk
    · exact .no
  · split
    · exact .un fun a => .onFn fun f b c => hcf _ _ h hk
    · exact .no
  · split
    · unfold appOp
      split
      · split
        · split
          · split
            · split
              · split
                · exact .bi fun a b => frm_app _ _ _ _ h hk
                · exact .no
              · exact .no
            · exact .no
          · split
            · split
              · split
                · exact .bi fun a b => frm_app _ _ _ _ h hk
                · exact .no
              · exact .no
            · exact .no
          · exact .no
        · exact .no
      · exact .no
    · exact .no
  · exact .un fun a => frm_itN _ h hk
  · split
    · split
      · exact .un fun a => .bi fun b c => frm_mpI _ _ _ h hk
      · exact .no
    · exact .no
  · split
    · split
      · split
        · exact .un fun a => frm_cvS _ h hk
        · exact .no
      · exact .no
    · exact .no
  · split
    · split
      · split
        · exact .bi fun a b => frm_usS _ _ _ h hk
        · exact .no
      · exact .no
    · exact .no
  · exact .no

/-- a place kept behind h's end -/
theorem Kept.resv {h : H} {n : Nat} (hk : Kept r h) : Kept r ⟨Nat.add h.next n, h.tr⟩ := ⟨hk.lt, by have := hk.next; show r < h.next + n; omega, hk.nb⟩

theorem frm_resv {α : Type} {n : Nat} {f : Nat → H → (α → H → Bool) → Bool} (hf : ∀ id h, Kept r h → (∀ i, i < n → cl (id + i) ≠ cl r) → FrmAt r (f id) h) : FrmG r (fun h (k : α → H → Bool) => resv n h fun id h' => f id h' k) := by
  intro h hk
  refine .both (c := fun h => Nat.ble (Nat.add h.next n) 262144) (F := fun h k => f h.next ⟨Nat.add h.next n, h.tr⟩ k) (fun _ => rfl) fun e => ?_
  have e1 : h.next + n ≤ 262144 := ble_true e
  have h1 := hk.next; have h2 := hk.lt
  rcases hf h.next ⟨Nat.add h.next n, h.tr⟩ hk.resv (fun i hi => by rw [cl_id (by omega), cl_id (by omega)]; omega) with e | ⟨a, h3, e, k3, e4⟩
  · exact .inl e
  · exact .inr ⟨a, h3, e, k3, e4⟩

theorem frm_vop {cf : CallF} (hcf : CallFrm r cf) (o : Op) : FrmG r (fun h (k : V → H → Bool) => vop P cf q o h k) := by
  unfold vop
  split
  · exact .pure (G := fun k => pop P q o k) (ret_pop o)
  · exact frm_lop o
  · exact frm_resv (f := fun id h k => aop P q o id h k) fun id h hk hne => frm_aop o (hne 0 (by omega)) h hk
  · exact frm_fop hcf o
theorem frm_vopD {cf : CallF} (hcf : CallFrm r cf) (o : Op) {id : Nat} (hne : clOf P o = .a → cl id ≠ cl r) : FrmG r (fun h (k : V → H → Bool) => vopD P cf q id o h k) := by
  unfold vopD
  split
  · exact .pure (G := fun k => pop P q o k) (ret_pop o)
  · exact frm_lop o
  · rename_i hc; exact frm_aop o (hne hc)
  · exact frm_fop hcf o
theorem frm_guardT {x : V} {f : H → KV → Bool} (hf : FrmG r f) : FrmG r (fun h (k : V → H → Bool) => guardT x h (f h) k) := by
  cases x with
  | t b => cases b with
    | true => exact hf
    | false => exact .k _
  | x g a b => cases g <;> first | exact .no | exact .k _
  | _ => exact .no
theorem frm_guardF {x : V} {f : H → KV → Bool} (hf : FrmG r f) : FrmG r (fun h (k : V → H → Bool) => guardF x h (f h) k) := by
  cases x with
  | t b => cases b with
    | false => exact hf
    | true => exact .k _
  | x g a b => cases g <;> first | exact .no | exact .k _
  | _ => exact .no
theorem frm_goR {cf : CallF} (hcf : CallFrm r cf) (ops : Array Oper) (i : Nat) (ρ : TL) (e : L8) : FrmG r (fun h (k : V → H → Bool) => goR P G cf N ops i ρ e h k) := by
  unfold goR
  split
  · exact .no
  · split
    · exact frm_vop hcf _
    · split
      · split
        · split
          · split
            · exact frm_guardT (frm_vop hcf _)
            · exact frm_guardF (frm_vop hcf _)
          · exact .no
        · exact .no
      · exact .no
theorem frm_goD {cf : CallF} (hcf : CallFrm r cf) (ops : Array Oper) (id i : Nat) (hne : ∀ o, ops[i]? = some o → clOf P o.op = .a → cl id ≠ cl r) (ρ : TL) (e : L8) : FrmG r (fun h (k : V → H → Bool) => goD P G cf N ops id i ρ e h k) := by
  unfold goD
  split
  · exact .no
  · rename_i o ho
    split
    · exact frm_vopD hcf _ (hne o ho)
    · split
      · split
        · split
          · split
            · exact frm_guardT (frm_vopD hcf _ (hne o ho))
            · exact frm_guardF (frm_vopD hcf _ (hne o ho))
          · exact .no
        · exact .no
      · exact .no
theorem frm_put {α : Type} {d : Option Tmp} {v : V} {ρ : TL} {e : L8} (hN : N.l.length ≤ 64) {f : TL → L8 → H → (α → H → Bool) → Bool} (hf : ∀ ρ e, FrmG r (f ρ e)) : FrmG r (fun h (k : α → H → Bool) => put N d v ρ e fun ρ' e' => f ρ' e' h k) := by
  unfold put
  split
  · exact hf _ _
  · split
    · split
      · rename_i i hi
        have := idx_lt _ _ _ hi
        have e2 : ∀ g : L8 → H → (α → H → Bool) → Bool, (fun (h : H) (k : α → H → Bool) => putL i v e fun e' => g e' h k) = fun h k => g (updL i v e) h k := fun g => by
          funext h k; exact putL_eq _ (by omega) _ _ _
        rw [e2]; exact hf _ _
      · exact hf _ _
    · exact .no

def FrmT (r : Nat) (F : H → KT → Bool) : Prop := FrmG r (fun h (k : TL × L8 → H → Bool) => F h fun ρ e h => k (ρ, e) h)
def FrmX (r : Nat) (F : H → KX → Bool) : Prop := FrmG r (fun h (k : X × L8 → H → Bool) => F h fun x e h => k (x, e) h)

theorem frm_runR {cf : CallF} (hcf : CallFrm r cf) (hN : N.l.length ≤ 64) (ops : Array Oper) : ∀ (l : List Nat) (ρ : TL) (e : L8), FrmT r (fun h => runR P G cf N ops l ρ e h)
  | [], ρ, e => .k _
  | i :: t, ρ, e => FrmG.bind (F := fun h (k : V → H → Bool) => goR P G cf N ops i ρ e h k)
      (f := fun v h (k : TL × L8 → H → Bool) => put N (dstR ops i) v ρ e fun ρ' e' => runR P G cf N ops t ρ' e' h fun ρ e h => k (ρ, e) h) (frm_goR hcf ops i ρ e)
      fun v => frm_put hN fun ρ' e' => frm_runR hcf hN ops t ρ' e'
theorem isL_of {c : Cl} (h : isL c = true) : c = .l := by cases c <;> first | rfl | exact Bool.noConfusion (show false = true from h)
theorem clD_of {ops : Array Oper} {i : Nat} {o : Oper} (h : ops[i]? = some o) : clD P ops i = clOf P o.op := by unfold clD; rw [h]
theorem frm_chksD {cf : CallF} (hcf : CallFrm r cf) (ops : Array Oper) (ρ : TL) (e : L8) {h : H} (hk : Kept r h) : ∀ c : List Nat, (c.all fun j => isL (clD P ops j)) = true →
    (∀ k, chksD P G cf N ops c ρ e h k = false) ∨ (∀ k, chksD P G cf N ops c ρ e h k = k) ∧ ∀ b k, chksD P G cf N ops c ρ e (h.ins r b) k = k
  | [], _ => .inr ⟨fun _ => rfl, fun _ _ => rfl⟩
  | j :: t, hc => by
    rw [List.all_cons, Bool.and_eq_true] at hc
    unfold chksD
    split
    · rename_i d hd
      rcases frm_goD (P := P) (G := G) (N := N) hcf ops 0 j (fun o ho ha => by have := isL_of hc.1; rw [clD_of ho, ha] at this; simp at this) ρ e h hk with e1 | ⟨v, h', e1, _, e1'⟩
      · exact .inl fun k => e1 _
      · rcases frm_chksD hcf ops ρ e hk t hc.2 with e2 | ⟨e2, e2'⟩
        · exact .inl fun k => (e1 _).trans (by rw [e2]; cases eqV v (getT N d ρ e) <;> rfl)
        · cases e3 : eqV v (getT N d ρ e) with
          | false => exact .inl fun k => (e1 _).trans (by rw [e3]; rfl)
          | true => exact .inr ⟨fun k => (e1 _).trans (by rw [e3, e2]; rfl), fun b k => (e1' b _).trans (by rw [e3, e2']; rfl)⟩
    · exact .inl fun _ => rfl
theorem frm_runD {cf : CallF} (hcf : CallFrm r cf) (hN : N.l.length ≤ 64) (ops : Array Oper) (b n : Nat) (hb : ∀ i, i < n → cl (b + i) ≠ cl r) : ∀ (l : List Od), l.all (okD P ops n) = true → ∀ (ρ : TL) (e : L8), FrmT r (fun h => runD P G cf N ops b l ρ e h)
  | [], _, ρ, e => .k _
  | x :: t, hl, ρ, e => by
      rw [List.all_cons, Bool.and_eq_true] at hl
      have hx := hl.1
      unfold okD at hx
      rw [Bool.and_eq_true] at hx
      exact FrmG.bind (F := fun h (k : V → H → Bool) => goD P G cf N ops (Nat.add b x.r) x.i ρ e h k)
        (f := fun v h (k : TL × L8 → H → Bool) => put N (dstR ops x.i) v ρ e fun ρ' e' => chksD P G cf N ops x.c ρ' e' h (runD P G cf N ops b t ρ' e' h fun ρ e h => k (ρ, e) h))
        (frm_goD hcf ops _ x.i (fun o ho hc => by
          have := hx.1
          rw [clD_of ho] at this; simp only [hc] at this
          exact hb _ (ble_true this)) ρ e)
        fun v => frm_put hN fun ρ' e' h hk => by
          rcases frm_chksD (P := P) (G := G) (N := N) hcf ops ρ' e' hk x.c hx.2 with e1 | ⟨e1, e1'⟩
          · exact .inl fun k => e1 _
          · rcases frm_runD hcf hN ops b n hb t hl.2 ρ' e' h hk with e2 | ⟨a, h1, e2, k1, e2'⟩
            · exact .inl fun k => (e1 _).trans (e2 k)
            · exact .inr ⟨a, h1, fun k => (e1 _).trans (e2 k), k1, fun b k => (e1' b _).trans (e2' b k)⟩

theorem frm_seqM {a b : M} (ha : ∀ e, FrmX r (a e)) (hb : ∀ e, FrmX r (b e)) (e : L8) : FrmX r (seqM a b e) :=
  FrmG.bind (F := fun h (k : X × L8 → H → Bool) => a e h fun x e h => k (x, e) h)
    (f := fun y h (k : X × L8 → H → Bool) => X.rec (motive := fun _ => Bool) (b y.2 h fun x e h => k (x, e) h) (fun i => k (.x i, y.2) h) (k (.r, y.2) h) y.1) (ha e) fun y => by
      obtain ⟨x, e'⟩ := y
      cases x
      · exact hb _
      · exact .k _
      · exact .k _
theorem frm_blockM {i : Nat} {a : M} (ha : ∀ e, FrmX r (a e)) (e : L8) : FrmX r (blockM i a e) :=
  FrmG.bind (F := fun h (k : X × L8 → H → Bool) => a e h fun x e h => k (x, e) h) (f := fun y h (k : X × L8 → H → Bool) => k (unX i y.1, y.2) h) (ha e) fun y => .k _
theorem frm_loopM {a : M} (ha : ∀ e, FrmX r (a e)) : ∀ (n : Nat) (e : L8), FrmX r (loopM n a e)
  | 0, e => .no
  | n + 1, e => FrmG.bind (F := fun h (k : X × L8 → H → Bool) => a e h fun x e h => k (x, e) h)
    (f := fun y h (k : X × L8 → H → Bool) => X.rec (motive := fun _ => Bool) (loopM n a y.2 h fun x e h => k (x, e) h) (fun i => k (.x i, y.2) h) (k (.r, y.2) h) y.1) (ha e) fun y => by
      obtain ⟨x, e'⟩ := y
      cases x
      · exact frm_loopM ha n _
      · exact .k _
      · exact .k _

theorem frm_regR {cf : CallF} (hcf : CallFrm r cf) (hN : N.l.length ≤ 64) {c : Code} {f : TL → L8 → H → KT → Bool} (hf : regR P G cf N c = some f) (ρ : TL) (e : L8) : FrmT r (f ρ e) := by
  cases c <;> try (simp [regR] at hf; done)
  rename_i i ops d
  cases d
  · simp only [regR, Option.some.injEq] at hf
    subst hf
    exact frm_runR hcf hN ops _ ρ e
  · simp only [regR] at hf
    split at hf
    · split at hf
      · rename_i n l ho hl
        simp only [Option.some.injEq] at hf
        subst hf
        exact frm_resv (f := fun id h (k : TL × L8 → H → Bool) => runD P G cf N ops id l ρ e h fun ρ e h => k (ρ, e) h) fun id h hk hne => frm_runD hcf hN ops id n hne l hl ρ e h hk
      · simp at hf
    · simp at hf

theorem frm_exec {cf : CallF} (hcf : CallFrm r cf) (hN : N.l.length ≤ 64) (lf : Nat) : ∀ (c : Code) (ρ : TL) (e : L8), FrmX r (exec P G cf lf N c ρ e)
  | .skip, ρ, e => .k _
  | .region i ops d, ρ, e => by
    rw [exec_region]
    cases hf : regR P G cf N (.region i ops d) with
    | some f =>
      exact FrmG.bind (F := fun h (k : TL × L8 → H → Bool) => f ρ e h fun ρ e h => k (ρ, e) h) (f := fun y h (k : X × L8 → H → Bool) => k (.n, y.2) h) (frm_regR hcf hN hf ρ e) fun y => .k _
    | none => exact .no
  | .seq a b, ρ, e => by
    rw [exec_seq]
    cases hf : regR P G cf N a with
    | some f =>
      exact FrmG.bind (F := fun h (k : TL × L8 → H → Bool) => f ρ e h fun ρ e h => k (ρ, e) h) (f := fun y h (k : X × L8 → H → Bool) => exec P G cf lf N b y.1 y.2 h fun x e h => k (x, e) h) (frm_regR hcf hN hf ρ e) fun y => frm_exec hcf hN lf b y.1 y.2
    | none => exact frm_seqM (frm_exec hcf hN lf a ρ) (frm_exec hcf hN lf b .n) e
  | .cond c a b, ρ, e => by
    rw [exec_cond]
    unfold FrmX
    dsimp only
    split
    · rename_i x hx
      cases x with
      | t t => cases t with
        | true => exact frm_exec hcf hN lf a ρ e
        | false => exact frm_exec hcf hN lf b ρ e
      | _ => exact .no
    · exact .no
  | .block i a, ρ, e => frm_blockM (frm_exec hcf hN lf a ρ) e
  | .loop a, ρ, e => frm_loopM (frm_exec hcf hN lf a .n) lf e
  | .exit i, ρ, e => .k _
  | .ret, ρ, e => .k _
  | .rangeFunc .., ρ, e => .no
  | .scope _, ρ, e => .no
  | .label _, ρ, e => .no
  | .goto _, ρ, e => .no
  | .refuse _, ρ, e => .no

theorem frm_ldV (t : TypeId) (a : V) : FrmG r (fun h (k : V → H → Bool) => ldV P t a h fun v => k v h) := by
  intro h hk
  unfold ldV
  split
  · exact .onP fun id off lim ver => .onBk hk fun c s bver f e x o hne => .both (fun _ => rfl) fun _ => .both (fun _ => rfl) fun _ => .k hk _
  · exact .onP fun id off lim ver => .onBk hk fun c s bver f e x o hne => .both (fun _ => rfl) fun _ => .both (fun _ => rfl) fun _ => .k hk _
theorem frm_resL : ∀ {l : List ResultVar} {q : QF}, resL P N l = some q → ∀ e, FrmG r (fun h (k : V → H → Bool) => q e h fun v => k v h)
  | [], q, hq, e => by simp only [resL, Option.some.injEq] at hq; subst hq; exact .k _
  | .tmp t :: rs, q, hq, e => by
    simp only [resL] at hq
    split at hq
    · split at hq
      · rename_i q' hq'
        simp only [Option.some.injEq] at hq; subst hq
        exact FrmG.bind (F := fun h (k : V → H → Bool) => q' e h fun l => k l h) (f := fun l h (k : V → H → Bool) => k (.x .cons (getT N t .n e) l) h) (frm_resL hq' e) fun l => .k _
      · simp at hq
    · simp at hq
  | .cell c t :: rs, q, hq, e => by
    simp only [resL] at hq
    split at hq
    · split at hq
      · rename_i q' hq'
        simp only [Option.some.injEq] at hq; subst hq
        exact FrmG.bind (F := fun h (k : V → H → Bool) => ldV P t (getT N c .n e) h fun v => k v h) (f := fun v h (k : V → H → Bool) => q' e h fun l => k (.x .cons v l) h) (frm_ldV t _) fun v =>
          FrmG.bind (F := fun h (k : V → H → Bool) => q' e h fun l => k l h) (f := fun l h (k : V → H → Bool) => k (.x .cons v l) h) (frm_resL hq' e) fun l => .k _
      · simp at hq
    · simp at hq
theorem frm_resE {l : List ResultVar} {q : QF} (hq : resE P N l = some q) (e : L8) : FrmG r (fun h (k : V → H → Bool) => q e h fun v => k v h) := by
  unfold resE at hq
  split at hq
  · split at hq
    · simp only [Option.some.injEq] at hq; subst hq; exact .k _
    · simp at hq
  · split at hq
    · simp only [Option.some.injEq] at hq; subst hq; exact frm_ldV _ _
    · simp at hq
  · split at hq
    · rename_i q' hq'
      simp only [Option.some.injEq] at hq; subst hq
      exact FrmG.bind (F := fun h (k : V → H → Bool) => q' e h fun l => k l h) (f := fun l h (k : V → H → Bool) => k (.x .tup l V.nil) h) (frm_resL hq' e) fun l => .k _
    · simp at hq
theorem frm_finK {q : QF} (hq : ∀ e, FrmG r (fun h (k : V → H → Bool) => q e h fun v => k v h)) (x : X) (e : L8) : FrmG r (fun h (k : V → H → Bool) => finK q k x e h) := by
  cases x
  · exact hq e
  · exact .no
  · exact hq e

theorem frm_argsK {α : Type} : ∀ (n i : Nat) (ρ : TL) (e : L8) (l : V) {f : TL → L8 → H → (α → H → Bool) → Bool}, (∀ ρ e, FrmG r (f ρ e)) → FrmG r (fun h (k : α → H → Bool) => argsK N n i ρ e l fun ρ' e' => f ρ' e' h k)
  | 0, i, ρ, e, l, f, h => by
    show FrmG r (fun h (k : α → H → Bool) => onNil l (f ρ e h k))
    cases l with
    | x t a b => cases t <;> first | exact .no | exact h _ _
    | _ => exact .no
  | n + 1, i, ρ, e, l, f, h => by
    cases l with
    | x t a b =>
      cases t <;> first | exact .no | skip
      show FrmG r (fun h (k : α → H → Bool) => match idx N.l i with
        | some j => argsK N n (i + 1) (.c i a ρ) (updL j a e) b fun ρ' e' => f ρ' e' h k
        | none => argsK N n (i + 1) (.c i a ρ) e b fun ρ' e' => f ρ' e' h k)
      split
      · exact frm_argsK n _ _ _ _ h
      · exact frm_argsK n _ _ _ _ h
    | _ => exact .no

theorem frm_fnF {LF : Nat → List Nat} {OF : Nat → Nat → Option (Nat × List Od)} {cf : CallF} {lf : Nat} (hcf : CallFrm r cf) : CallFrm r (fnF P G LF OF cf lf) := by
  intro f l
  unfold fnF
  cases hf : P.funcs[f]? with
  | none => exact .no
  | some fn =>
    dsimp only
    by_cases h1 : (fn.name == "runtime.NumGoroutine") = true
    · rw [if_pos h1]; exact .no
    · rw [if_neg h1]
      by_cases hc : (LF f).length ≤ 64 ∧ fn.params.size + fn.nfree ≤ fn.ntmps
      · rw [if_pos hc]
        cases hb : fn.body with
        | none => exact .no
        | some c =>
          cases hq : resE P ⟨fn.ntmps, LF f, OF f⟩ fn.results.toList with
          | none => exact .no
          | some q =>
            exact frm_argsK _ _ _ _ _ (f := fun ρ e h (k : V → H → Bool) => exec P G cf lf _ c ρ e h fun x e' h' => finK q k x e' h') fun ρ e =>
              FrmG.bind (F := fun h (k : X × L8 → H → Bool) => exec P G cf lf _ c ρ e h fun x e h => k (x, e) h) (f := fun y h (k : V → H → Bool) => finK q k y.1 y.2 h) (frm_exec hcf hc.1 lf c ρ e) fun y => by
                exact frm_finK (frm_resE hq) y.1 y.2
      · rw [if_neg hc]; exact .no

end Go.Bvm
