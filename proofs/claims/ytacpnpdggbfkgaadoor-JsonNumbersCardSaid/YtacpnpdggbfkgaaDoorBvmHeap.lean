/- The abstract machine: memory held against the model's. Conditions: none. -/
import Derived.Test.YtacpnpdggbfkgaaDoorBvmOpS
import Derived.Laws.Cells
set_option linter.unusedVariables false
namespace Go.Bvm

theorem Rel.lt {φ : Phi} {h : H} {w : World} (R : Rel φ h w) {id v : Nat} {l : Loc} (e : φ id v = some l) : id < 262144 := Nat.lt_of_lt_of_le (R.dom id v l e).1 R.next

/-- what a block's place holds -/
theorem Rel.bk {φ : Phi} {h : H} {w : World} (R : Rel φ h w) {id ver : Nat} {l : Loc} (e : φ id ver = some l) {c : Arr} {size bver frz elem : Nat} {ex own : Bool} (hb : hget id h.tr = .bk c size bver frz elem ex own) :
    ∃ l' cs fr, φ id bver = some l' ∧ l'.sz = size ∧ w.heap[l'.B]? = some (.cells cs elem fr) ∧ l'.bsz = cs.size ∧ l'.base + size ≤ cs.size ∧ size ≤ acap c ∧
      (∀ i, i < size → ∃ v, cs[l'.base + i]? = some v ∧ RV φ (aget i c) v ∧ v.oneCell' = true) ∧ (∀ v, bver < v → φ id v = none) ∧
      (own = true → ∀ i, frz ≤ i → l'.base + i < cs.size → ¬ (fr.1 ≤ l'.base + i ∧ l'.base + i < fr.2)) ∧ (ex = true → l'.base = 0 ∧ size = cs.size) := by
  have := R.blk id (R.lt e)
  rw [hb] at this
  exact this

theorem cell_of_block {w : World} {B o : Nat} {cs : Array Value} {elem : TypeId} {fr : Nat × Nat} (h : w.heap[B]? = some (.cells cs elem fr)) : w.cell? ⟨B, o, none⟩ = cs[o]? := by
  unfold World.cell?; simp [h]
theorem frozen_of_block {w : World} {B o : Nat} {cs : Array Value} {elem : TypeId} {fr : Nat × Nat} (h : w.heap[B]? = some (.cells cs elem fr)) : w.frozen? ⟨B, o, none⟩ = (decide (fr.1 ≤ o) && decide (o < fr.2)) := by
  unfold World.frozen?; simp [h]
theorem add_addr (B o j : Nat) : Addr.add ⟨B, o, none⟩ j = ⟨B, o + j, none⟩ := by
  unfold Addr.add; split
  · rename_i h; subst h; simp
  · rfl

theorem Rel.cell {φ : Phi} {h : H} {w : World} (R : Rel φ h w) {id ver : Nat} {l : Loc} (e : φ id ver = some l) {c : Arr} {size frz elem : Nat} {ex own : Bool} (hb : hget id h.tr = .bk c size ver frz elem ex own) {i : Nat} (hi : i < l.sz) :
    ∃ v, w.cell? ⟨l.B, l.base + i, none⟩ = some v ∧ RV φ (aget i c) v ∧ v.oneCell' = true := by
  obtain ⟨l', cs, fr, e', hs, hh, _, hle, _, hc, _⟩ := R.bk e hb
  rw [e] at e'; cases e'
  obtain ⟨v, hv, hr⟩ := hc i (by omega)
  exact ⟨v, by rw [cell_of_block hh]; exact hv, hr⟩

theorem cells_rel {φ : Phi} {w : World} {c : Arr} {B o : Nat} : ∀ (n i : Nat), (∀ j, j < n → ∃ v, w.cell? ⟨B, o + i + j, none⟩ = some v ∧ RV φ (aget (i + j) c) v ∧ v.oneCell' = true) →
    ∃ l : List Value, l.length = n ∧ RL φ (cells c n i) l ∧ (∀ v, v ∈ l → v.oneCell' = true) ∧ ∀ (j : Nat) v, l[j]? = some v → w.cell? ⟨B, o + i + j, none⟩ = some v
  | 0, i, _ => ⟨[], rfl, .nil, by simp, by simp⟩
  | n + 1, i, h => by
    obtain ⟨v, hv, hr, ho⟩ := h 0 (by omega)
    obtain ⟨l, h1, h2, h3, h4⟩ := cells_rel n (i + 1) (fun j hj => by
      have := h (j + 1) (by omega)
      rw [show o + (i + 1) + j = o + i + (j + 1) from by omega, show i + 1 + j = i + (j + 1) from by omega]; exact this)
    refine ⟨v :: l, by simp [h1], .cons hr h2, by simpa using ⟨ho, h3⟩, fun j u hu => ?_⟩
    cases j with
    | zero => simp at hu; subst hu; simpa using hv
    | succ j =>
      have := h4 j u (by simpa using hu)
      rw [show o + i + (j + 1) = o + (i + 1) + j from by omega]; exact this

/-- the cells of a row, one behind the other, stored -/
theorem storeCells_run {P : Program} {B : Nat} {elem : TypeId} {fr : Nat × Nat} : ∀ (vs : List Value) (i o : Nat) (w : World) (cs : Array Value), w.heap[B]? = some (.cells cs elem fr) → (∀ v, v ∈ vs → v.oneCell' = true) → o + i + vs.length ≤ cs.size →
    (∀ j, j < vs.length → ¬ (fr.1 ≤ o + i + j ∧ o + i + j < fr.2)) →
    ∃ w' cs', (storeCells ⟨B, o, none⟩ vs i).run P w = .ok () w' ∧ w'.heap[B]? = some (.cells cs' elem fr) ∧ cs'.size = cs.size ∧ (∀ k, cs'[k]? = if o + i ≤ k ∧ k < o + i + vs.length then vs[k - (o + i)]? else cs[k]?) ∧
      w'.heap.size = w.heap.size ∧ w'.os = w.os ∧ w'.tape = w.tape ∧ w'.output = w.output ∧ ∀ k, k ≠ B → w'.heap[k]? = w.heap[k]?
  | [], i, o, w, cs, h, _, _, _ => ⟨w, cs, rfl, h, rfl, fun k => by rw [if_neg (by simp only [List.length_nil]; omega)], rfl, rfl, rfl, rfl, fun _ _ => rfl⟩
  | v :: r, i, o, w, cs, h, hone, hle, hfr => by
    have hlt : o + i < cs.size := by simp at hle; omega
    have h1 : w.cell? ⟨B, o + i, none⟩ = some cs[o + i] := by rw [cell_of_block h]; exact Array.getElem?_eq_getElem hlt
    have h2 : w.frozen? ⟨B, o + i, none⟩ = false := by
      rw [frozen_of_block h]
      have := hfr 0 (by simp)
      simp at this ⊢; omega
    have hB : (w.setCell ⟨B, o + i, none⟩ v).heap[B]? = some (.cells (cs.setIfInBounds (o + i) v) elem fr) := by
      simp only [World.setCell, Array.getElem?_modify]
      simp [h]
    obtain ⟨w', cs', e1, e2, e3, e4, e5, e6, e7, e8, e9⟩ := storeCells_run r (i + 1) o (w.setCell ⟨B, o + i, none⟩ v) _ hB (fun u hu => hone u (by simp [hu])) (by simp at hle ⊢; omega) (fun j hj => by
      have := hfr (j + 1) (by simp; omega)
      rw [show o + (i + 1) + j = o + i + (j + 1) from by omega]; exact this)
    refine ⟨w', cs', ?_, e2, by rw [e3]; simp, fun k => ?_, by rw [e5]; simp, e6, e7, e8, fun k hk => ?_⟩
    · unfold storeCells
      rw [Sem.run_bind, add_addr, run_store P w _ v _ (hone v (by simp)), h1, h2]
      exact e1
    · rw [e4 k]
      by_cases hk : k = o + i
      · subst hk
        rw [if_neg (by omega), if_pos (by simp)]
        simp [hlt]
      · by_cases hk2 : o + (i + 1) ≤ k ∧ k < o + (i + 1) + r.length
        · rw [if_pos hk2, if_pos (by simp; omega)]
          rw [show k - (o + i) = (k - (o + (i + 1))) + 1 from by omega]; simp
        · rw [if_neg hk2, if_neg (by simp; omega), Array.getElem?_setIfInBounds, if_neg (by omega)]
    · rw [e9 k hk]
      exact Go.RowKit.Below.heap_setCell _ _ _ _ hk

/-- one block turned, or a new one: the rest stands -/
theorem Rel.put {φ : Phi} {h : H} {w : World} (R : Rel φ h w) {φ' : Phi} {w' : World} {id nx : Nat} {b : Blk} {T : T6} {l : Loc} (hid : id < nx) (hnx : h.next ≤ nx) (hnx2 : nx ≤ 262144)
    (hT : ∀ i, i < 262144 → i ≠ id → hget i T = hget i h.tr ∨ hget i T = .nb) (hle : φ.le φ') (hold : ∀ i v m, φ' i v = some m → i ≠ id → φ i v = some m)
    (hdom : ∀ v m, φ' id v = some m → m.B < w'.heap.size ∧ m.base + m.sz ≤ m.bsz) (hsz : w.heap.size ≤ w'.heap.size) (hheap : ∀ B, B < w.heap.size → B ≠ l.B → w'.heap[B]? = w.heap[B]?)
    (hb : BlkOk φ' w' id b) (hl : φ' id (verOf b) = some l) (hap : ∀ j m, j < 262144 → j ≠ id → hget j T ≠ .nb → φ j (verOf (hget j T)) = some m → m.B ≠ l.B) : Rel φ' ⟨nx, hset id b T⟩ w' := by
  have hid2 : id < 262144 := by omega
  refine ⟨hnx2, ?_, ?_, ?_⟩
  · intro i v m e
    by_cases hi : i = id
    · subst hi; exact ⟨hid, hdom v m e⟩
    · obtain ⟨h1, h2, h3⟩ := R.dom i v m (hold i v m e hi)
      exact ⟨by show i < nx; omega, by omega, h3⟩
  · intro i hi
    show BlkOk φ' w' i (hget i (hset id b T))
    rw [hget_hset _ _ _ _ hi hid2]
    by_cases e : i = id
    · rw [if_pos e]; subst e; exact hb
    · rw [if_neg e]
      rcases hT i hi e with ht | ht
      · have hB := R.blk i hi
        rw [← ht] at hB
        cases hc : hget i T with
        | nb => exact trivial
        | mp kv =>
          rw [hc] at hB
          obtain ⟨m, es, ck, e1, e2, e3, e4, e5⟩ := hB
          have hm := (R.dom i 0 m e1).2.1
          have hne := hap i m hi e (by rw [hc]; simp) (by rw [hc]; exact e1)
          exact ⟨m, es, ck, hle _ _ _ e1, e2, by rw [hheap _ hm hne]; exact e3, e4.mono hle, fun v hv => by
            cases hq : φ' i v with
            | none => rfl
            | some q => have := hold i v q hq e; rw [e5 v hv] at this; exact absurd this (by simp)⟩
        | pin a b c =>
          rw [hc] at hB
          obtain ⟨m, el, fr, e1, e2, e3, e5⟩ := hB
          have hm := (R.dom i 0 m e1).2.1
          have hne := hap i m hi e (by rw [hc]; simp) (by rw [hc]; exact e1)
          exact ⟨m, el, fr, hle _ _ _ e1, e2, by rw [hheap _ hm hne]; exact e3, fun v hv => by
            cases hq : φ' i v with
            | none => rfl
            | some q => have := hold i v q hq e; rw [e5 v hv] at this; exact absurd this (by simp)⟩
        | it n r pos =>
          rw [hc] at hB
          obtain ⟨m, s, e1, e2, e3, e4, e5, e6, e7⟩ := hB
          have hm := (R.dom i 0 m e1).2.1
          have hne := hap i m hi e (by rw [hc]; simp) (by rw [hc]; exact e1)
          exact ⟨m, s, hle _ _ _ e1, e2, by rw [hheap _ hm hne]; exact e3, e4, e5, e6, fun v hv => by
            cases hq : φ' i v with
            | none => rfl
            | some q => have := hold i v q hq e; rw [e7 v hv] at this; exact absurd this (by simp)⟩
        | bk c size ver frz elem ex own =>
          rw [hc] at hB
          obtain ⟨m, cs, fr, e1, e2, e3, e4, e5, e6, e7, e8, e9, e10⟩ := hB
          have hm := (R.dom i ver m e1).2.1
          have hne := hap i m hi e (by rw [hc]; simp) (by rw [hc]; exact e1)
          refine ⟨m, cs, fr, hle _ _ _ e1, e2, by rw [hheap _ hm hne]; exact e3, e4, e5, e6, fun j hj => ?_, fun v hv => ?_, e9, e10⟩
          · obtain ⟨v, a1, a2, a3⟩ := e7 j hj; exact ⟨v, a1, a2.mono hle, a3⟩
          · cases hq : φ' i v with
            | none => rfl
            | some q => have := hold i v q hq e; rw [e8 v hv] at this; exact absurd this (by simp)
      · rw [ht]; exact trivial
  · intro i j hi hj hne ho hn m1 m2 hm1 hm2
    dsimp only at hm1 hm2 ho hn
    rw [hget_hset _ _ _ _ hi hid2] at hm1 ho
    rw [hget_hset _ _ _ _ hj hid2] at hm2 hn
    by_cases e1 : i = id
    · have e2 : j ≠ id := fun k => hne (by rw [e1, k])
      rw [if_pos e1] at hm1
      rw [if_neg e2] at hm2 hn
      subst e1
      rw [hl] at hm1; cases hm1
      exact fun k => hap j m2 hj e2 hn (hold j _ _ hm2 e2) k.symm
    · rw [if_neg e1] at hm1 ho
      by_cases e2 : j = id
      · rw [if_pos e2] at hm2
        subst e2
        rw [hl] at hm2; cases hm2
        exact hap i m1 hi e1 (by intro k; rw [k] at ho; simp [owns] at ho) (hold i _ _ hm1 e1)
      · rw [if_neg e2] at hm2 hn
        rcases hT i hi e1 with t1 | t1
        · rcases hT j hj e2 with t2 | t2
          · rw [t1] at hm1 ho; rw [t2] at hm2 hn
            exact R.apart i j hi hj hne ho hn m1 m2 (hold i _ _ hm1 e1) (hold j _ _ hm2 e2)
          · exact absurd t2 hn
        · rw [t1] at ho; simp [owns] at ho

/-- what turned: one block of the run's own, or a new one -/
theorem Ext.put {φ : Phi} {h : H} {w : World} {φ' : Phi} {w' : World} {id n0 nx : Nat} {b : Blk} {T : T6} {l : Loc} (hid : id < 262144)
    (hT : ∀ i, i < 262144 → i ≠ id → hget i T = hget i h.tr ∨ hget i T = .nb) (hle : φ.le φ') (hold : ∀ i v m, φ' i v = some m → i ≠ id → φ i v = some m)
    (hsz : w.heap.size ≤ w'.heap.size) (hos : w'.os = w.os) (htp : w'.tape = w.tape) (hou : w'.output = w.output) (hn0 : n0 ≤ 262144) (hn : n0 ≤ nx) (hlive : n0 ≤ id ∨ hget id h.tr ≠ .nb)
    (hheap : ∀ B, B < w.heap.size → B ≠ l.B → w'.heap[B]? = w.heap[B]?) (hl : φ' id (verOf b) = some l) (hown : Own φ h.tr l.B ∨ w.heap.size ≤ l.B) : Ext φ ⟨n0, h.tr⟩ w φ' ⟨nx, hset id b T⟩ w' := by
  refine ⟨hle, hos, htp, hou, hsz, hn, fun B hB hO => ?_, fun B hB hO => ?_, fun B hB hO => ?_, fun i hi hnb => ?_⟩
  · obtain ⟨i, m, hi, ho, hm, hmB⟩ := hO
    dsimp only at ho hm
    rw [hget_hset _ _ _ _ hi hid] at ho hm
    by_cases e : i = id
    · rw [if_pos e] at hm
      subst e
      rw [hl] at hm; cases hm
      rcases hown with k | k
      · rw [← hmB]; exact k
      · omega
    · rw [if_neg e] at ho hm
      rcases hT i hi e with t | t
      · rw [t] at ho hm; exact ⟨i, m, hi, ho, hold _ _ _ hm e, hmB⟩
      · rw [t] at ho; simp [owns] at ho
  · obtain ⟨i, m, hi, ho, hm, hmB⟩ := hO
    dsimp only at ho hm
    rw [hget_hset _ _ _ _ hi hid] at ho hm
    by_cases e : i = id
    · rw [if_pos e] at hm
      subst e
      rw [hl] at hm; cases hm
      rcases hown with k | k
      · rw [← hmB]; exact k.vis
      · omega
    · rw [if_neg e] at ho hm
      rcases hT i hi e with t | t
      · rw [t] at ho hm; exact ⟨i, m, hi, ho, hold _ _ _ hm e, hmB⟩
      · rw [t] at ho; exact absurd rfl ho
  · rcases hown with k | k
    · exact hheap B hB (fun e => hO (by rw [e]; exact k))
    · exact hheap B hB (by omega)
  · dsimp only at hi hnb
    have hi2 : i < 262144 := by omega
    have e : i ≠ id := fun e => by
      subst e
      rcases hlive with k | k
      · omega
      · exact k hnb
    dsimp only
    rw [hget_hset _ _ _ _ hi2 hid, if_neg e]
    refine ⟨?_, fun v => ?_⟩
    · rcases hT i hi2 e with t | t
      · rw [t]; exact hnb
      · exact t
    · cases hq : φ' i v with
      | some m => exact (hold i v m hq e).symm
      | none =>
        cases hq2 : φ i v with
        | none => rfl
        | some m => rw [hle _ _ _ hq2] at hq; simp at hq

end Go.Bvm
