/- The abstract machine: errors.As, strconv.Itoa as one step; variables that are not written. Conditions: stated in each theorem. -/
import Derived.Test.YtfcknednlkfmpaaGreatDoorBvm4
import Derived.LaidHandle
import Derived.Lib.LaidTab
import Derived.Lib.ItoaNum
import Derived.Sort.Grow
import Derived.Deep.Draws
import Derived.LaidSub
set_option linter.unusedVariables false
namespace Go.Bvm
open Go.RowKit (Below)
variable {P : Program} {G : Nat → Bool}
inductive Chn (W F : Nat) (w : World) (e : Addr) : Value → Nat → Prop
  | base : Chn W F w e (.iface F (.pointer (some e))) 0
  | step {b o n : Nat} {v : Value} : w.cell? ⟨b, o + 1, none⟩ = some v → Chn W F w e v n → Chn W F w e (.iface W (.pointer (some ⟨b, o, none⟩))) (n + 1)
theorem Chn.one {W F : Nat} (hWF : W ≠ F) {w : World} {e : Addr} {v : Value} {n m : Nat} (h : Chn W F w e v n) (k : Chn W F w e v m) : n = m := by
  induction h generalizing m with
  | base => cases k with
    | base => rfl
    | step => exact absurd rfl hWF
  | step hc _ ih => cases k with
    | base => exact absurd rfl hWF
    | step hc' k => rw [hc] at hc'; cases hc'; rw [ih k]
noncomputable def chLen (W F : Nat) (w : World) (e : Addr) (v : Value) : Nat := Classical.epsilon fun n => Chn W F w e v n
theorem chLen_eq {W F : Nat} (hWF : W ≠ F) {w : World} {e : Addr} {v : Value} {n : Nat} (h : Chn W F w e v n) : chLen W F w e v = n :=
  Chn.one hWF (Classical.epsilon_spec (p := fun n => Chn W F w e v n) ⟨n, h⟩) h
theorem as_lt {w : World} {a : Addr} {v : Value} (h : w.cell? a = some v) : a.block < w.heap.size := by
  rcases Nat.lt_or_ge a.block w.heap.size with k | k
  · exact k
  · simp [World.cell?, Array.getElem?_eq_none k] at h
theorem Chn.mono {W F : Nat} {w w' : World} {e : Addr} {v : Value} {n : Nat} (h : Chn W F w e v n) (k : ∀ a : Addr, a.block < w.heap.size → w'.cell? a = w.cell? a) : Chn W F w' e v n := by
  induction h with
  | base => exact .base
  | step hc _ ih => exact .step ((k _ (as_lt hc)).trans hc) ih
def AsC (P : Program) (f g F W FF a b c : Nat) : Prop := (∀ (t : Value) (w : World), Calls P f #[.nilIface, t] w fun e w' => e = .returned (.bool false) ∧ w' = w) ∧
  ∀ (e t : Addr) (old v : Value) (n : Nat) (w : World), w.cell? ⟨g, 0, none⟩ = some (pinV a b c) → Chn W F w e v n → w.cell? t = some old → w.frozen? t = false →
    Calls P f #[v, .iface FF (.pointer (some t))] w fun ev w' => ev = .returned (.bool true) ∧ ∃ o1 o2 o3 o4 : Obj, w' = ((((w.alloc o1).alloc o2).alloc o3).alloc o4).setCell t (.pointer (some e))
noncomputable section
def onIf (v : V) (z : Bool) (k : Nat → V → Bool) : Bool := V.rec (motive := fun _ => Bool) (fun _ => false) (fun _ => false) (fun _ => false) (fun _ _ => false) (fun _ _ _ _ => false) (fun _ _ _ _ _ => false)
  (fun g a _ _ _ => Tag.rec (motive := fun _ => Bool) (fun _ _ => false) false false false z false false false false false false (fun t => k t a) (fun _ => false) (fun _ => false) false false false g) v
def asCh (F W : Nat) (h : H) (k : V → Bool) : (n : Nat) → V → Bool := Nat.rec (motive := fun _ => V → Bool) (fun _ => false) (fun _ ih v => onIf v false fun t a => bs (Nat.beq t F) (onP a fun _ _ _ _ => k a)
  (both (Nat.beq t W) (onP a fun id off lim ver => onBk (hget id h.tr) fun c _ bver _ _ _ _ => both (Nat.beq ver bver) (both (Nat.ble (Nat.add off 2) lim) (ih (aget (Nat.succ off) c))))))
def extAs (fu g F W FF a b c : Nat) (l : V) (h : H) (k : KV) : Bool := onCons l fun ev r => onCons r fun tv r => onNil r (onIf ev (k (.t false) h) fun _ _ => onPin (hget g h.tr) fun a' b' c' =>
  both (Nat.beq a a') (both (Nat.beq b b') (both (Nat.beq c c') (onIf tv false fun t ta => both (Nat.beq t FF) (asCh F W h (fun pe => st true 1 ta pe h fun _ h' => k (.t true) h') fu ev)))))
end
theorem onIf_true {v : V} {z : Bool} {k : Nat → V → Bool} (h : onIf v z k = true) : (∃ a b, v = .x .inil a b ∧ z = true) ∨ ∃ t a b, v = .x (.iface t) a b ∧ k t a = true := by
  cases v with
  | x g a b => cases g <;> first | exact Bool.noConfusion (show false = true from h) | exact .inl ⟨_, _, rfl, h⟩ | exact .inr ⟨_, _, _, rfl, h⟩
  | _ => exact Bool.noConfusion (show false = true from h)
theorem RetG.onIf {α : Type} {v : V} {g : (α → Bool) → Bool} {f : Nat → V → (α → Bool) → Bool} (hn : RetG g) (h : ∀ a b, RetG (f a b)) : RetG (fun k => Bvm.onIf v (g k) fun a b => f a b k) := by
  cases v with
  | x t a b => cases t <;> first | exact .no | exact hn | exact h _ _
  | _ => exact .no
theorem RetG.onPin {α : Type} {b : Blk} {f : Nat → Nat → Nat → (α → Bool) → Bool} (h : ∀ a b c, RetG (f a b c)) : RetG (fun k => Bvm.onPin b fun x y z => f x y z k) := by
  cases b <;> first | exact .no | exact h _ _ _
theorem FrmAt.onIf {α : Type} {r : Nat} {h : H} {v : V} {g : H → (α → H → Bool) → Bool} {f : Nat → V → H → (α → H → Bool) → Bool} (hn : FrmAt r g h) (hf : ∀ a b, FrmAt r (f a b) h) : FrmAt r (fun h k => Bvm.onIf v (g h k) fun a b => f a b h k) h := by
  cases v with
  | x t a b => cases t <;> first | exact .no | exact hn | exact hf _ _
  | _ => exact .no
theorem FrmAt.onPin {α : Type} {r : Nat} {h : H} {id : Nat} {f : Nat → Nat → Nat → H → (α → H → Bool) → Bool} (hk : Kept r h) (hf : ∀ a b c, FrmAt r (f a b c) h) : FrmAt r (fun h k => Bvm.onPin (hget id h.tr) fun a b c => f a b c h k) h := by
  cases e : hget id h.tr with
  | pin a b c =>
    have hne := hk.ne (id := id) (by rw [e]; simp)
    rcases hf a b c with e2 | ⟨u, h1, e2, k1, e3⟩
    · exact .inl fun k => by dsimp only; rw [e]; exact e2 k
    · exact .inr ⟨u, h1, fun k => by dsimp only; rw [e]; exact e2 k, k1, fun b' k => by dsimp only; rw [Kept.ins_get hne, e]; exact e3 b' k⟩
  | nb => exact .inl fun k => by dsimp only; rw [e]; rfl
  | mp _ => exact .inl fun k => by dsimp only; rw [e]; rfl
  | it _ _ _ => exact .inl fun k => by dsimp only; rw [e]; rfl
  | bk _ _ _ _ _ _ _ => exact .inl fun k => by dsimp only; rw [e]; rfl
theorem asCh_ret {α : Type} {F W : Nat} {h : H} {f : V → (α → Bool) → Bool} (hf : ∀ v, RetG (f v)) : ∀ (n : Nat) (v : V), RetG (fun k => asCh F W h (fun pe => f pe k) n v)
  | 0, v => .no
  | n + 1, v => .onIf .no fun t a => .bs (.onP fun _ _ _ _ => hf _) (.both (.onP fun id off lim ver => .onBk fun c s v g z x o => .both (.both (asCh_ret hf n _))))
theorem asCh_frm {α : Type} {F W r : Nat} {h : H} (hk : Kept r h) {f : V → H → (α → H → Bool) → Bool} (hf : ∀ v, FrmAt r (f v) h) : ∀ (n : Nat) (v : V), FrmAt r (fun h k => asCh F W h (fun pe => f pe h k) n v) h
  | 0, v => .no
  | n + 1, v => .onIf .no fun t a => .bs (.onP fun _ _ _ _ => hf _) (.both (c := fun _ => Nat.beq t W) (fun _ => rfl) fun _ => .onP fun id off lim ver => .onBk hk fun c s v g z x o _ => .both (c := fun _ => Nat.beq ver v) (fun _ => rfl) fun _ => .both (c := fun _ => Nat.ble (Nat.add off 2) lim) (fun _ => rfl) fun _ => asCh_frm hk hf n _)
theorem asCh_ok {F W : Nat} {h : H} {k : V → Bool} {φ : Phi} {w : World} (R : Rel φ h w) : ∀ (n : Nat) (v : V) (c : Value), asCh F W h k n v = true → RV φ v c → ∃ pe e m, k pe = true ∧ RV φ pe (.pointer (some e)) ∧ Chn W F w e c m
  | 0, v, c, hm, _ => Bool.noConfusion (show false = true from hm)
  | n + 1, v, c, hm, rv => by
    rcases onIf_true (show onIf v false _ = true from hm) with ⟨_, _, _, h0⟩ | ⟨t, a, b, rfl, h1⟩
    · simp at h0
    · cases rv with
      | iface ra =>
        cases hq : Nat.beq t F with
        | true =>
          rw [hq, bs_true] at h1
          obtain rfl := beq_true hq
          obtain ⟨id, off, lim, ver, rfl, h2⟩ := onP_true h1
          obtain ⟨l, _, _, rfl⟩ := ra.inv_p
          exact ⟨_, _, 0, h2, ra, .base⟩
        | false =>
          rw [hq, bs_false] at h1
          obtain ⟨h2, h3⟩ := both_true h1
          obtain rfl := beq_true h2
          obtain ⟨id, off, lim, ver, rfl, h4⟩ := onP_true h3
          obtain ⟨l, e1, e2, rfl⟩ := ra.inv_p
          obtain ⟨cc, size, bver, frz, elem, ex, own, e3, h5⟩ := onBk_true h4
          obtain ⟨h6, h7⟩ := both_true h5
          obtain ⟨h8, h9⟩ := both_true h7
          obtain rfl := beq_true h6
          have h8 := ble_true h8
          simp only [Nat.add_eq] at h8
          obtain ⟨v, c1, r1, _⟩ := R.cell e1 e3 (i := off + 1) (by omega)
          obtain ⟨pe, e, m, k1, k2, k3⟩ := asCh_ok R n _ v h9 r1
          exact ⟨pe, e, m + 1, k1, k2, .step (by rw [← Nat.add_assoc] at c1; exact c1) k3⟩
theorem st1_rel (P : Program) {x y : V} {h : H} {k : KV} (hm : st true 1 x y h k = true) {φ : Phi} {w : World} {xv : Value} {e : Addr} (rx : RV φ x xv) (ry : RV φ y (.pointer (some e))) (R : Rel φ h w) :
    ∃ p old h', xv = .pointer (some p) ∧ w.cell? p = some old ∧ w.frozen? p = false ∧ k V.u h' = true ∧ Rel φ h' (w.setCell p (.pointer (some e))) ∧ Ext φ h w φ h' (w.setCell p (.pointer (some e))) := by
  obtain ⟨id, off, lim, ver, e1, h2⟩ := onP_true hm
  obtain ⟨c, size, bver, frz, elem, ex, own, e2, h3⟩ := onBk_true h2
  obtain ⟨hown, h4⟩ := both_true h3
  obtain ⟨h5, h6⟩ := both_true h4
  obtain ⟨h7, h8⟩ := both_true h6
  obtain ⟨h9, h10⟩ := both_true h8
  obtain rfl := beq_true h5
  have h7 := ble_true h7; have h9 := ble_true h9
  simp only [Nat.add_eq] at h7
  rw [e1] at rx
  obtain ⟨l, e3, hl, e4⟩ := rx.inv_p
  have hid := R.lt e3
  obtain ⟨l', cs, fr, e3', b1, b2, b3, b4, b5, b6, b7, b8, b9⟩ := R.bk e3 e2
  rw [e3] at e3'; cases e3'
  obtain ⟨s1, s2, c', s3, s4, s5, s6⟩ := layV_true h10 ry (by omega) (.inl (by omega))
  have hfr := b8 hown off (by omega) (by omega)
  have hcell : w.cell? ⟨l.B, l.base + off, none⟩ = some cs[l.base + off] := by rw [cell_of_block b2]; exact Array.getElem?_eq_getElem (by omega)
  have hfz : w.frozen? ⟨l.B, l.base + off, none⟩ = false := by
    rw [frozen_of_block b2]
    simp at hfr ⊢; omega
  obtain ⟨w', cs', r1, r2, r3, r4, r5, r6, r7, r8, r9⟩ := storeCells_run (P := P) [Value.pointer (some e)] 0 (l.base + off) w cs b2 (fun v hv => by simp at hv; subst hv; rfl) (by simp; omega) (fun j hj => by
    have : j = 0 := by simpa using hj
    subst this; exact hfr)
  have hrun : (storeCells ⟨l.B, l.base + off, none⟩ [Value.pointer (some e)] 0).run P w = .ok () (w.setCell ⟨l.B, l.base + off, none⟩ (.pointer (some e))) := by
    unfold storeCells
    rw [Sem.run_bind, add_addr, run_store P w _ _ _ rfl, Nat.add_zero, hcell, hfz]
    rfl
  rw [hrun] at r1
  have hw' : w.setCell ⟨l.B, l.base + off, none⟩ (.pointer (some e)) = w' := by injection r1
  subst hw'
  have hb : BlkOk φ (w.setCell ⟨l.B, l.base + off, none⟩ (.pointer (some e))) id (.bk c' size ver frz elem ex own) := by
    refine ⟨l, cs', fr, e3, b1, r2, by rw [r3]; exact b3, by rw [r3]; exact b4, by rw [s4]; exact b5, fun j hj => ?_, b7, fun q u v z => b8 q u v (by omega), fun q => by rw [r3]; exact b9 q⟩
    rw [r4]
    by_cases hjj : j = off
    · subst hjj
      rw [if_pos ⟨by omega, by simp⟩]
      refine ⟨.pointer (some e), by rw [show l.base + j - (l.base + j + 0) = 0 from by omega]; rfl, ?_, rfl⟩
      have := s6 0 _ rfl
      rw [Nat.add_zero] at this; exact this
    · rw [if_neg (by simp; omega)]
      obtain ⟨v, v1, v2, v3⟩ := b6 j hj
      refine ⟨v, v1, ?_, v3⟩
      rw [s5 j (by omega) (by omega)]; exact v2
  have hOwn : Own φ h.tr l.B := ⟨id, l, hid, by rw [e2]; exact hown, by rw [e2]; exact e3, rfl⟩
  have R' := R.put (φ' := φ) (w' := w.setCell ⟨l.B, l.base + off, none⟩ (.pointer (some e))) (id := id) (nx := h.next) (b := .bk c' size ver frz elem ex own) (T := h.tr) (l := l) (R.dom _ _ _ e3).1 (Nat.le_refl _) R.next (fun _ _ _ => .inl rfl) φ.le_refl (fun _ _ _ q _ => q)
    (fun v m q => by rw [r5]; exact (R.dom _ _ _ q).2) (by omega) (fun B _ hB => r9 B hB) hb e3
    (fun j m hj hne hnb hjm => fun q => R.apart id j hid hj (Ne.symm hne) (by rw [e2]; exact hown) hnb l m (by rw [e2]; exact e3) hjm q.symm)
  have X := Ext.put (h := h) (φ := φ) (φ' := φ) (w := w) (w' := w.setCell ⟨l.B, l.base + off, none⟩ (.pointer (some e))) (id := id) (n0 := h.next) (nx := h.next) (b := .bk c' size ver frz elem ex own) (T := h.tr) (l := l) hid (fun _ _ _ => .inl rfl) φ.le_refl (fun _ _ _ q _ => q) (by omega) r6 r7 r8 R.next (Nat.le_refl _) (.inr (by rw [e2]; simp)) (fun B _ hB => r9 B hB) e3 (.inl hOwn)
  exact ⟨_, _, _, e4, hcell, hfz, s3, R', X⟩
set_option maxHeartbeats 1000000 in
theorem EntOk.as (fu : Nat) {f g F W FF a b c : Nat} {gl : Global} (hgl : P.globals[g]? = some gl) (hG : G g = true) (hlt : g < 262144) (ha0 : a ≠ 0) (hent : ∀ (args : Array Value) (w : World), (callFunc f args).run P w = .ok (.enter f args) w) (hC : AsC P f g F W FF a b c) : EntOk P G f (fun _ => extAs fu g F W FF a b c) where
  ok := fun cf _ _ _ l h k hm φ w args hg hl R => by
    obtain ⟨ev, r, h1, hm1⟩ := onCons_true hm
    rw [h1] at hl
    cases hl with
    | @cons _ _ cv _ hev hr =>
    obtain ⟨tv, r', h2, hm2⟩ := onCons_true hm1
    rw [h2] at hr
    cases hr with
    | @cons _ _ tc _ htv hr =>
    obtain ⟨_, _, h4, hm4⟩ := onNil_true hm2
    rw [h4] at hr
    cases hr
    refine .inr (.inr ⟨f, _, hent _ w, ?_⟩)
    rcases onIf_true hm4 with ⟨_, _, rfl, hk⟩ | ⟨_, _, _, _, hm5⟩
    · cases hev with
      | inil => exact (hC.1 tc w).mono fun e w' ⟨e1, e2⟩ => ⟨_, e1, _, h, φ, hk, .t, by rw [e2]; exact R, by rw [e2]; exact .refl _ _ _⟩
    · obtain ⟨a', b', c', e1, hm6⟩ := onPin_true hm5
      obtain ⟨q1, hm7⟩ := both_true hm6
      obtain ⟨q2, hm8⟩ := both_true hm7
      obtain ⟨q3, hm9⟩ := both_true hm8
      obtain rfl := beq_true q1; obtain rfl := beq_true q2; obtain rfl := beq_true q3
      rcases onIf_true hm9 with ⟨_, _, _, h0⟩ | ⟨t, ta, tb, rfl, hm10⟩
      · simp at h0
      · obtain ⟨q4, hm11⟩ := both_true hm10
        obtain rfl := beq_true q4
        cases htv with
        | iface hta =>
        rename_i tav
        obtain ⟨pe, e, m, hst, hpe, hch⟩ := asCh_ok R fu ev cv hm11 hev
        obtain ⟨lg, g1, g2, g3, _⟩ := hg g gl hG hgl
        have hpin := R.blk g hlt
        rw [e1] at hpin
        obtain ⟨l', el, fr, p1, p2, p3, _⟩ := hpin
        rw [g1] at p1
        obtain rfl := Option.some.inj p1
        rw [g2] at p3
        have hcellg : w.cell? ⟨g, 0, none⟩ = some (pinV a b c) := by rw [pinA_pos ha0] at p3; rw [cell_of_block p3]; rfl
        obtain ⟨p0, old, _, rfl, ht, hf, _, _, _⟩ := st1_rel P hst hta hpe R
        refine (hC.2 e p0 old cv m w hcellg hch ht hf).mono ?_
        rintro ev' w' ⟨rfl, o1, o2, o3, o4, rfl⟩
        have hB : Below w.heap.size w ((((w.alloc o1).alloc o2).alloc o3).alloc o4) := ((((Below.refl _ w).alloc (Nat.le_refl _) _).alloc (by simp) _).alloc (by simp; omega) _).alloc (by simp; omega) _
        obtain ⟨R1, X1⟩ := R.belowW hB
        obtain ⟨p0', old', h', e5, _, _, hk, R2, X2⟩ := st1_rel P hst hta hpe R1
        obtain rfl : p0 = p0' := by simpa using e5
        exact ⟨_, rfl, _, h', φ, hk, .t, R2, X1.trans X2⟩
  ret := fun cf _ l h => .onCons fun ev r => .onCons fun tv r => .onNil (.onIf (.k _) fun _ _ => .onPin fun a' b' c' => .both (.both (.both (.onIf .no fun t ta => .both (asCh_ret (fun pe => RetG.bind (f := fun (b : V × H) (k : V × H → Bool) => k (V.t true, b.2)) (ret_st true 1 ta pe h) fun b => .k _) fu ev)))))
  frm := fun cf _ r l h hk => .onCons fun ev q => .onCons fun tv q => .onNil (.onIf (.k hk _) fun _ _ => .onPin hk fun a' b' c' => .both (c := fun _ => Nat.beq a a') (fun _ => rfl) fun _ => .both (c := fun _ => Nat.beq b b') (fun _ => rfl) fun _ => .both (c := fun _ => Nat.beq c c') (fun _ => rfl) fun _ =>
    .onIf .no fun t ta => .both (c := fun _ => Nat.beq t FF) (fun _ => rfl) fun _ => asCh_frm hk (fun pe => FrmAt.bind (frm_st true 1 ta pe h hk) fun _ h hk => .k hk _) fu ev)
noncomputable def pinPhi (f : Nat → Option Nat) : Phi := fun i v => if v = 0 then (f i).map fun sz => ⟨i, 0, sz, sz⟩ else none
def PinsAt (L : List (Nat × Nat × Nat × Nat)) (w : World) : Prop := ∀ x, x ∈ L → ∃ el fr, w.heap[x.1]? = some (.cells (pinA x.2.1 x.2.2.1 x.2.2.2) el fr)
noncomputable def pinsM (L : List (Nat × Nat × Nat × Nat)) : Mem := L.map fun x => (x.1, .pin x.2.1 x.2.2.1 x.2.2.2)
theorem Rel.startL {w : World} {L : List (Nat × Nat × Nat × Nat)} {f : Nat → Option Nat} {n : Nat} (hn : n ≤ 262144) (hL : PinsAt L w) (hlt : ∀ x, x ∈ L → x.1 < n) (hf : ∀ g sz, f g = some sz → ∃ x, x ∈ L ∧ x.1 = g) (hf2 : ∀ x, x ∈ L → (f x.1).isSome = true) : Rel (pinPhi f) ⟨n, putM (pinsM L) t6⟩ w := by
  have hmem : ∀ y : Nat × Blk, y ∈ pinsM L → ∃ x, x ∈ L ∧ y = (x.1, .pin x.2.1 x.2.2.1 x.2.2.2) := fun y hy => by
    obtain ⟨x, hx, rfl⟩ := List.mem_map.1 hy
    exact ⟨x, hx, rfl⟩
  have hlt' : ∀ y, y ∈ pinsM L → y.1 < 262144 := fun y hy => by
    obtain ⟨x, hx, rfl⟩ := hmem y hy
    have := hlt x hx
    show x.1 < 262144; omega
  have own : ∀ i, i < 262144 → owns (hget i (putM (pinsM L) t6)) = false := fun i hi => by
    rcases lookL (pinsM L) i with ⟨b, h1, h2, _⟩ | ⟨_, h2, _⟩
    · rw [h2 _ hlt' hi]
      obtain ⟨x, _, e⟩ := hmem _ h1
      cases e; rfl
    · rw [h2 _ hlt' hi, hget_t6]; rfl
  refine ⟨hn, fun id v l h => ?_, fun id hid => ?_, fun i j hi _ _ ho => ?_⟩
  · unfold pinPhi at h
    split at h
    · rename_i e
      cases hq : f id with
      | none => rw [hq] at h; simp at h
      | some sz =>
        rw [hq] at h
        obtain rfl := Option.some.inj h
        obtain ⟨x, hx, rfl⟩ := hf _ _ hq
        obtain ⟨el, fr, e2⟩ := hL x hx
        exact ⟨hlt x hx, (Array.getElem?_eq_some_iff.1 e2).1, by show 0 + sz ≤ sz; omega⟩
    · simp at h
  · show BlkOk _ _ _ (hget id (putM (pinsM L) t6))
    rcases lookL (pinsM L) id with ⟨b, h1, h2, _⟩ | ⟨_, h2, _⟩
    · rw [h2 _ hlt' hid]
      obtain ⟨x, hx, e⟩ := hmem _ h1
      cases e
      obtain ⟨el, fr, e2⟩ := hL x hx
      cases hq : f x.1 with
      | none => have := hf2 x hx; rw [hq] at this; simp at this
      | some sz => exact ⟨⟨x.1, 0, sz, sz⟩, el, fr, by unfold pinPhi; rw [if_pos rfl, hq]; rfl, rfl, e2, fun v hv => by unfold pinPhi; rw [if_neg (by omega)]⟩
    · rw [h2 _ hlt' hid, hget_t6]; trivial
  · dsimp only at ho
    rw [own i hi] at ho; simp at ho
theorem Ext.belowPin {φ φ' : Phi} {n : Nat} {L : List (Nat × Nat × Nat × Nat)} (hlt : ∀ x, x ∈ L → x.1 < 262144) {h' : H} {w w' : World} (X : Ext φ ⟨n, putM (pinsM L) t6⟩ w φ' h' w') : Below w.heap.size w w' := by
  have hlt' : ∀ y, y ∈ pinsM L → y.1 < 262144 := fun y hy => by
    obtain ⟨x, hx, rfl⟩ := List.mem_map.1 hy
    exact hlt x hx
  have no : ∀ B, ¬ Own φ (putM (pinsM L) t6) B := fun B ⟨id, l, hid, ho, _⟩ => by
    rcases lookL (pinsM L) id with ⟨b, h1, h2, _⟩ | ⟨_, h2, _⟩
    · rw [h2 _ hlt' hid] at ho
      obtain ⟨x, _, e⟩ := List.mem_map.1 h1
      cases e; simp [owns] at ho
    · rw [h2 _ hlt' hid, hget_t6] at ho; simp [owns] at ho
  exact ⟨X.os, X.tape, X.output, X.size, fun k hk => X.frame k hk (no k)⟩
theorem law_call_pin {P : Program} (hmix : P.follows .mixedOrders = true) {LF : Nat → List Nat} {OF : Nat → Nat → Option (Nat × List Od)} {lf f nn : Nat} {L : List (Nat × Nat × Nat × Nat)} {sz : Nat → Option Nat} {G : Nat → Bool} (hG : ∀ x, G x = true → ∀ q, P.globals[x]? = some q → ∃ s, sz x = some s ∧ sizeT P q.type ≤ s)
    (hn : nn ≤ 262144) (hlt : ∀ x, x ∈ L → x.1 < nn) (hf : ∀ g s, sz g = some s → ∃ x, x ∈ L ∧ x.1 = g) (hf2 : ∀ x, x ∈ L → (sz x.1).isSome = true) {t : CallF → CallF} (ht : TblOk P G t) {T : CallF → Nat → V → H → KV → Bool} (e : FnEq P G LF OF f T) (hchk : chkF P LF OF f = true) {a : V} (n : Nat)
    (hm : T (run t n) lf (.x .cons a V.nil) ⟨nn, putM (pinsM L) t6⟩ (fun v _ => onT v fun b => b) = true) {W : World} (hw : PinsAt L W) {v : Value} (hv : RV (pinPhi sz) a v) :
    Calls P f #[v] W fun e W' => e = .returned (.bool true) ∧ Below W.heap.size W W' := by
  rw [← e (run t n) lf] at hm
  obtain ⟨h1, h2, h3⟩ := run_ok ht n
  obtain ⟨_, h⟩ := fnF_ok (φ := pinPhi sz) hmix h1 h2 h3 hchk hm (fun x q hx hq => by
    obtain ⟨s, e1, e2⟩ := hG x hx q hq
    exact ⟨⟨x, 0, s, s⟩, by unfold pinPhi; rw [if_pos rfl, e1]; rfl, rfl, rfl, e2⟩) (.cons hv .nil) (Rel.startL hn hw hlt hf hf2)
  refine h.mono ?_
  rintro e w' ⟨c, rfl, v, h', φ', hk, rv, R', X⟩
  obtain ⟨b, rfl, hb⟩ := onT_true hk
  have hb : b = true := hb
  subst hb
  obtain rfl := rv.inv_t
  exact ⟨rfl, X.belowPin (fun x hx => by have := hlt x hx; omega)⟩
section
open Go.ChangeShapes Go.WideShapes Go.ChangeAt Go.RowKit
theorem law_lifted_laid2 {H : Type} {enc : TypeId × Value → H} {C : Checked} {os : Os} {f : FuncId} {fn : Func} {s : ChangeSpec} {t tb : TypeId} {conds : List PathCond} {laid : List (String × DataW Unit)}
    (own : ownKnob C.prog.godebug = none) (started : os.Started) (noInit : C.prog.inits.idxOf? f = none) (hfn : C.prog.funcs[f]? = some fn)
    (witness : ∃ (w : World) (tape : Tape) (i : Input), w.os = os ∧ (w.forCall tape i).Shaped C.prog ∧ i.vars = [] ∧ Input.okWide C.prog (w.forCall tape i) .any w.heap.size f i ∧
      ((s.pre enc C.prog fn conds false (w.forCall tape i).memory i.args ∧ laidMetH C.prog laid (w.forCall tape i).memory) ∧ sizedMet enc C.prog fn (OpenSpec.ofChange s) false (w.forCall tape i).memory i.args) ∧ ({ modest := false } : Assume).holds C.prog (lone (Frame.enter C.prog f i.args .normal) [] (w.forCall tape i)))
    (hp : fn.params = #[t]) (hr : fn.resultTypes = #[tb]) (htb : C.prog.underlying tb = some .bool) (hv : s.vars = []) (hs : ∀ d, s.fn H [d] = { results := [.lit (.bool true)], args := [d] })
    (hl : laidOutB C.prog = true) (hrd : C.prog.readableRec t = true) (hrow : t < C.prog.types.size)
    (hcall : ∀ (W : World) (base : Nat) (v : Value), laidMetH C.prog laid W → Value.okWide C.prog W .any base t v → Calls C.prog f #[v] W fun e W' => e = .returned (.bool true) ∧ Below W.heap.size W W') :
    ReturnsInHanded { modest := false } C os f .any (fun w args => (s.pre enc C.prog fn conds false w args ∧ laidMetH C.prog laid w) ∧ sizedMet enc C.prog fn (OpenSpec.ofChange s) false w args) (s.post enc C.prog fn false true false false) := by
  refine returnsInHanded_of_change_and (X := fun w _ => laidMetH C.prog laid w) (fun _ _ _ hh h => h.of_heap hh) own started noInit hfn witness ?_
  intro W base args ds gs before hval hW _ _ hX _
  have hW' := hW
  obtain ⟨p, q, hA, hV, rfl, hfz, hnd⟩ := hW
  rw [hp] at hA
  rw [hv] at hV
  obtain ⟨v, d, rfl, rfl, h0⟩ := trodAll_one hA
  obtain ⟨rfl, rfl⟩ := trodVars_none hV
  refine (hcall W base v hX (hval 0 t v (by rw [hp]; rfl) rfl)).mono fun e W' ⟨he, hb⟩ => ?_
  refine ⟨_, he, [d], [], p ++ [], [], p, [], hW', ?_, ?_, ?_, ?_, fun k => by simp at k⟩
  · rw [hr]
    show DataW.TrodAll enc C.prog W' W.heap.size (fun _ => false) false [tb] [.bool true] (s.fn H ([d] ++ [])).results []
    rw [List.append_nil, hs]
    exact trodAll_mk1 (shut_bool htb true)
  · rw [hp, List.append_nil, hs]
    exact trodAll_mk1 (Below.trod hl hrd hrow h0 hb fun x hx => by have := hW'.lt x (by simp [hx]); simpa using this)
  · rw [hv, List.append_nil, hs]
    exact rfl
  · exact hb.frame _
end
theorem pin_of_laid {P : Program} {laid : List (String × DataW Unit)} {x : String × DataW Unit} {nm : List UInt8} {g a ty n gs : Nat} {W : World} (h : laidMetH P laid W) (hf : laid.filter (fun x => x.2.handleName?.isSome) = [x]) (hfn : x.2.funcsIn? = none) (hn : x.2.handleName? = some nm)
    (hg : P.globalNamed x.1 = some g) (hr : (P.cutTypes.find? (·.1 == "internal/reflectlite.rtype")).map (·.2) = some a) (hs : P.types.size = n) (h1 : ((List.range n).filter fun t => P.rowNamed t nm) = [ty]) (hgs : P.globals.size = gs) (ha0 : a ≠ 0) :
    ∃ el fr, W.heap[g]? = some (.cells (pinA a gs ty) el fr) := by
  rw [pinA_pos ha0]
  unfold laidMetH at h
  rw [hf] at h
  have h' := h.2 x (List.mem_singleton.2 rfl)
  rw [hfn] at h'
  obtain ⟨name, u, ty', e1, e2, e3, e4, e5⟩ := h'
  rw [hn] at e1
  obtain rfl := Option.some.inj e1
  rw [hr] at e2
  obtain rfl := Option.some.inj e2
  have hm : ty' ∈ (List.range n).filter fun t => P.rowNamed t nm := List.mem_filter.2 ⟨List.mem_range.2 (by rw [← hs]; exact e3), e4⟩
  rw [h1] at hm
  obtain rfl := List.mem_singleton.1 hm
  unfold World.var? at e5
  rw [hg] at e5
  simp only [Option.bind_some] at e5
  cases hq : W.heap[g]? with
  | none => rw [hq] at e5; simp at e5
  | some o =>
    rw [hq] at e5
    cases o with
    | cells cs el fr =>
      simp only [Option.some.injEq] at e5
      refine ⟨el, fr, ?_⟩
      rw [e5, ← hgs]; rfl
    | _ => simp at e5
theorem pin_of_tab {P : Program} {g b c : Nat} {W : World} (h : Lib.TabIs P W "internal/strconv.uint64pow10" .u64 Lib.pow10Tab) (hg : P.globalNamed "internal/strconv.uint64pow10" = some g) : ∃ el fr, W.heap[g]? = some (.cells (pinA 0 b c) el fr) := by
  unfold Lib.TabIs World.var? at h
  rw [hg] at h
  simp only [Option.bind_some] at h
  cases hq : W.heap[g]? with
  | none => rw [hq] at h; simp at h
  | some o =>
    rw [hq] at h
    cases o with
    | cells cs el fr =>
      simp only [Option.some.injEq] at h
      exact ⟨el, fr, by rw [h]; rfl⟩
    | _ => simp at h
end Go.Bvm
set_option linter.unusedVariables false
namespace Go.Bvm
open Go.RowKit (Below)
variable {P : Program} {G : Nat → Bool}
def TenC (P : Program) (f : Nat) : Prop := ∀ (n : Int) (w : World), -9223372036854775808 ≤ n → n ≤ 9223372036854775807 → Lib.TabIs P w "internal/strconv.uint64pow10" .u64 Lib.pow10Tab →
  Calls P f #[.int .i64 n] w fun e w' => e = .returned (.string ⟨(Lib.itoa n).toArray⟩) ∧ Below w.heap.size w w'
noncomputable section
def tenN (k : Nat → Nat → Bool) : (fuel m acc l : Nat) → Bool := Nat.rec (motive := fun _ => Nat → Nat → Nat → Bool) (fun _ _ _ => false)
  (fun _ ih m acc l => bs (Nat.ble m 9) (k (Nat.succ l) (Nat.add (Nat.add 48 m) (Nat.mul 256 acc))) (ih (Nat.div m 10) (Nat.add (Nat.add 48 (Nat.mod m 10)) (Nat.mul 256 acc)) (Nat.succ l)))
def extTen (fu g : Nat) (l : V) (h : H) (k : KV) : Bool := onCons l fun a r => onNil r (onW a fun m => onPin (hget g h.tr) fun p _ _ => both (Nat.beq p 0) (bs (Nat.ble bias m) (tenN (fun l n => k (.s l n) h) fu (Nat.sub m bias) 0 0) (tenN (fun l n => k (.s (Nat.succ l) (Nat.add 45 (Nat.mul 256 n))) h) fu (Nat.sub bias m) 0 0)))
end
theorem pack_cons (b : UInt8) (l : List UInt8) : pack (b :: l) = b.toNat + 256 * pack l := rfl
theorem tenN_true {k : Nat → Nat → Bool} : ∀ (fuel m : Nat) (rest : List UInt8), tenN k fuel m (pack rest) rest.length = true → k (Lib.decDigits m ++ rest).length (pack (Lib.decDigits m ++ rest)) = true
  | 0, _, _, h => Bool.noConfusion (show false = true from h)
  | fuel + 1, m, rest, h => by
    have h : bs (Nat.ble m 9) (k (Nat.succ rest.length) (Nat.add (Nat.add 48 m) (Nat.mul 256 (pack rest)))) (tenN k fuel (Nat.div m 10) (Nat.add (Nat.add 48 (Nat.mod m 10)) (Nat.mul 256 (pack rest))) (Nat.succ rest.length)) = true := h
    by_cases hm : m < 10
    · rw [show Nat.ble m 9 = true from Nat.ble_eq_true_of_le (by omega), bs_true] at h
      rw [Lib.decDigits, dif_pos hm]
      have e : (UInt8.ofNat (48 + m)).toNat = 48 + m := by simp; omega
      rw [List.singleton_append, pack_cons, e, List.length_cons]
      exact h
    · have hb : Nat.ble m 9 = false := by
        cases hq : Nat.ble m 9 with
        | true => exact absurd (ble_true hq) (by omega)
        | false => rfl
      rw [hb, bs_false] at h
      have e : (UInt8.ofNat (48 + m % 10)).toNat = 48 + m % 10 := by simp; omega
      have h2 := tenN_true fuel (m / 10) (UInt8.ofNat (48 + m % 10) :: rest) (by rw [pack_cons, e, List.length_cons]; exact h)
      rw [Lib.decDigits, dif_neg hm, List.append_assoc, List.singleton_append]
      exact h2
theorem tenN_ret {α : Type} {f : Nat → Nat → (α → Bool) → Bool} (hf : ∀ a b, RetG (f a b)) : ∀ (fuel m acc l : Nat), RetG (fun k => tenN (fun a b => f a b k) fuel m acc l)
  | 0, _, _, _ => .no
  | fuel + 1, m, acc, l => .bs (hf _ _) (tenN_ret hf fuel _ _ _)
theorem Below.grow {B : Nat} {a w : World} (h : Below B a w) (hB : B ≤ w.heap.size) (os : Array Obj) : Below B a (Go.Sort.grow w os) :=
  h.trans ⟨rfl, rfl, rfl, by simp [Go.Sort.grow], fun k hk => by simp only [Go.Sort.grow]; rw [Array.getElem?_append_left (by omega)]⟩
theorem Below.drewN {B : Nat} {a w : World} (h : Below B a w) (n : Nat) : Below B a (w.drewN n) := h.trans ⟨rfl, rfl, rfl, Nat.le_refl _, fun _ _ => rfl⟩
theorem EntOk.ten (fu : Nat) {f g : Nat} {gl : Global} (hgl : P.globals[g]? = some gl) (hnm : P.globalNamed "internal/strconv.uint64pow10" = some g) (hG : G g = true) (hlt : g < 262144) (hent : ∀ (args : Array Value) (w : World), (callFunc f args).run P w = .ok (.enter f args) w) (hC : TenC P f) : EntOk P G f (fun _ => extTen fu g) where
  ok := fun cf _ _ _ l h k hm φ w args hg hl R => by
    obtain ⟨a, r, h1, hm1⟩ := onCons_true hm
    rw [h1] at hl
    cases hl with
    | cons ha hr =>
    obtain ⟨_, _, h2, hm2⟩ := onNil_true hm1
    rw [h2] at hr
    cases hr
    obtain ⟨m, e1, hm3⟩ := onW_true hm2
    rw [e1] at ha
    obtain ⟨hm18, rfl⟩ := ha.inv_w
    obtain ⟨p, _, _, e2, hm3⟩ := onPin_true hm3
    obtain ⟨h3, hm4⟩ := both_true hm3
    obtain rfl := beq_true h3
    obtain ⟨lg, g1, g2, g3, _⟩ := hg g gl hG hgl
    have hblk := R.blk g hlt
    rw [e2] at hblk
    obtain ⟨l', el, fr, a1, a2, a3, _⟩ := hblk
    rw [g1] at a1
    obtain rfl := Option.some.inj a1
    rw [g2] at a3
    have htab : Lib.TabIs P w "internal/strconv.uint64pow10" .u64 Lib.pow10Tab := by
      unfold Lib.TabIs World.var?
      rw [hnm]
      simp only [Option.bind_some, a3]
      rfl
    refine .inr (.inr ⟨f, _, hent _ w, ?_⟩)
    refine (hC ((m : Int) - 9223372036854775808) w (by omega) (by omega) htab).mono ?_
    rintro e w' ⟨rfl, hB⟩
    obtain ⟨R', X⟩ := R.belowW hB
    have fin : ∀ (s : List UInt8), k (.s s.length (pack s)) h = true → Lib.itoa ((m : Int) - 9223372036854775808) = s → ∃ c, Ending.returned (.string ⟨(Lib.itoa ((m : Int) - 9223372036854775808)).toArray⟩) = .returned c ∧ FPost k φ h w c w' := fun s hk hs => by
      rw [hs]
      exact ⟨_, rfl, _, h, φ, hk, .s (by simp [ByteArray.size]) (by simp), R', X⟩
    cases hq : Nat.ble bias m with
    | true =>
      rw [hq, bs_true] at hm4
      have hb := ble_true hq
      have h5 := tenN_true fu (m - bias) [] hm4
      rw [List.append_nil] at h5
      refine fin _ h5 ?_
      unfold Lib.itoa
      rw [if_neg (by unfold bias at hb; omega)]
      have e : ((m : Int) - 9223372036854775808).toNat = m - bias := by unfold bias; omega
      rw [e]
    | false =>
      rw [hq, bs_false] at hm4
      have hb : ¬ bias ≤ m := fun hb => by rw [Nat.ble_eq_true_of_le hb] at hq; simp at hq
      have h5 := tenN_true (k := fun l n => k (.s (Nat.succ l) (Nat.add 45 (Nat.mul 256 n))) h) fu (bias - m) [] hm4
      rw [List.append_nil] at h5
      refine fin (45 :: Lib.decDigits (bias - m)) h5 ?_
      unfold Lib.itoa
      rw [if_pos (by unfold bias at hb; omega)]
      have hb' : bias = 9223372036854775808 := rfl
      have e : ((m : Int) - 9223372036854775808).natAbs = bias - m := by rw [hb'] at hb ⊢; omega
      rw [e]
  ret := fun cf _ l h => .onCons fun a r => .onNil (.onW fun m => .onPin fun p _ _ => .both (.bs (tenN_ret (fun _ _ => .k _) _ _ _ _) (tenN_ret (fun _ _ => .k _) _ _ _ _)))
  frm := fun cf _ r l h hk => .onCons fun a q => .onNil (.onW fun m => .onPin hk fun p _ _ => .both (c := fun _ => Nat.beq p 0) (fun _ => rfl) fun _ =>
    .bs (FrmAt.pure (α := V) (G := fun k => tenN (fun l n => k (V.s l n)) fu (Nat.sub m bias) 0 0) (tenN_ret (f := fun l n (k : V → Bool) => k (V.s l n)) (fun _ _ => .k _) _ _ _ _) hk)
      (FrmAt.pure (α := V) (G := fun k => tenN (fun l n => k (V.s (Nat.succ l) (Nat.add 45 (Nat.mul 256 n)))) fu (Nat.sub bias m) 0 0) (tenN_ret (f := fun l n (k : V → Bool) => k (V.s (Nat.succ l) (Nat.add 45 (Nat.mul 256 n)))) (fun _ _ => .k _) _ _ _ _) hk))
def pinG (L : List (Nat × Nat × Nat × Nat)) (x : Nat) : Bool := L.any fun y => Nat.beq y.1 x
noncomputable def pinSz (L : List (Nat × Nat × Nat × Nat)) (x : Nat) : Option Nat := if pinG L x = true then some 64 else none
theorem law_call_pins {P : Program} (hmix : P.follows .mixedOrders = true) {LF : Nat → List Nat} {OF : Nat → Nat → Option (Nat × List Od)} {lf f nn : Nat} {L : List (Nat × Nat × Nat × Nat)} (hn : Nat.ble nn 262144 = true) (hlt : L.all (fun x => Nat.ble (Nat.succ x.1) nn) = true)
    (hsz : L.all (fun x => match P.globals[x.1]? with | some q => Nat.ble (sizeT P q.type) 64 | none => false) = true) {t : CallF → CallF} (ht : TblOk P (pinG L) t) {T : CallF → Nat → V → H → KV → Bool} (e : FnEq P (pinG L) LF OF f T) (hchk : chkF P LF OF f = true) {a : V} (n : Nat)
    (hm : T (run t n) lf (.x .cons a V.nil) ⟨nn, putM (pinsM L) t6⟩ (fun v _ => onT v fun b => b) = true) {W : World} (hw : PinsAt L W) {v : Value} (hv : RV (pinPhi (pinSz L)) a v) :
    Calls P f #[v] W fun e W' => e = .returned (.bool true) ∧ Below W.heap.size W W' := by
  have hG : ∀ x, pinG L x = true → ∃ y, y ∈ L ∧ y.1 = x := fun x hx => by
    obtain ⟨y, hy, h⟩ := List.any_eq_true.1 hx
    exact ⟨y, hy, beq_true h⟩
  refine law_call_pin (sz := pinSz L) hmix (fun x hx q hq => ?_) (ble_true hn) (fun x hx => ?_) (fun g s hs => ?_) (fun x hx => ?_) ht e hchk n hm hw hv
  · obtain ⟨y, hy, rfl⟩ := hG x hx
    have := List.all_eq_true.1 hsz y hy
    rw [hq] at this
    exact ⟨64, by unfold pinSz; rw [if_pos hx], ble_true this⟩
  · have := ble_true (List.all_eq_true.1 hlt x hx)
    omega
  · unfold pinSz at hs
    split at hs
    · rename_i h; exact hG g h
    · simp at hs
  · unfold pinSz
    have : pinG L x.1 = true := List.any_eq_true.2 ⟨x, hx, Nat.beq_refl _⟩
    rw [if_pos this]
    rfl
theorem tab_of_laid {P : Program} {laid : List (String × DataW Unit)} {W : World} (h : laidMetH P laid W) (hf : laid.filter (fun x => x.1 == "internal/strconv.uint64pow10") = [("internal/strconv.uint64pow10", Lib.tabData .u64 Lib.pow10Tab)]) : laidMet P [("internal/strconv.uint64pow10", Lib.tabData .u64 Lib.pow10Tab)] W := by
  have := laidMetH.filter (fun x => x.1 == "internal/strconv.uint64pow10") h
  rw [hf] at this
  exact this
end Go.Bvm
