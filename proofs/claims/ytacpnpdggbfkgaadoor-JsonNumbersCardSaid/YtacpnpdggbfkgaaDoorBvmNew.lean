/- The abstract machine: new blocks, slices, append. Conditions: none. -/
import Derived.Laws.IdiomCopy
import Derived.Laws.MakeOwn
import Derived.Test.YtacpnpdggbfkgaaDoorBvmMem
import Derived.Laws.Append
import Derived.Laws.BytesString
import Derived.Laws.Slices
import Derived.Lib.ConvBytes
set_option linter.unusedVariables false
namespace Go.Bvm
variable {P : Program} {G : Nat → Bool} {N : Fr} {q : Operand → Option V}

def Phi.add (φ : Phi) (id v : Nat) (l : Loc) : Phi := fun i u => if i = id ∧ u = v then some l else φ i u
theorem Phi.add_same (φ : Phi) (id v : Nat) (l : Loc) : φ.add id v l id v = some l := by simp [Phi.add]
theorem Phi.add_other (φ : Phi) {id v i u : Nat} (l : Loc) (h : ¬ (i = id ∧ u = v)) : φ.add id v l i u = φ i u := by simp only [Phi.add]; rw [if_neg h]
theorem Phi.le_add (φ : Phi) (id v : Nat) (l : Loc) (h : φ id v = none) : φ.le (φ.add id v l) := fun i u m e => by
  by_cases k : i = id ∧ u = v
  · obtain ⟨rfl, rfl⟩ := k; rw [h] at e; simp at e
  · rw [Phi.add_other _ _ k]; exact e

/-- a new block of the run's own; another one may be given up -/
theorem Rel.new {φ : Phi} {h : H} {w : World} (R : Rel φ h w) {id nx : Nat} (hid : id < nx) (hnx : h.next ≤ nx) (hnext : nx ≤ 262144) (hnone : ∀ v, φ id v = none) {T : T6} (hT : ∀ i, i < 262144 → hget i T = hget i h.tr ∨ hget i T = .nb) {c : Arr} {n frz elem : Nat} {ex : Bool} {cs : Array Value} {fr : Nat × Nat} {base : Nat} {B : Nat} {w' : World}
    (hcap : n ≤ acap c) (hn : base + n ≤ cs.size) (hc : ∀ i, i < n → ∃ v, cs[base + i]? = some v ∧ RV φ (aget i c) v ∧ v.oneCell' = true) (hex : ex = true → base = 0 ∧ n = cs.size)
    (hfr : ∀ i, frz ≤ i → base + i < cs.size → ¬ (fr.1 ≤ base + i ∧ base + i < fr.2)) (hB : w'.heap[B]? = some (.cells cs elem fr)) (hsz : w.heap.size ≤ w'.heap.size) (hheap : ∀ k, k < w.heap.size → k ≠ B → w'.heap[k]? = w.heap[k]?)
    (hos : w'.os = w.os) (htp : w'.tape = w.tape) (hou : w'.output = w.output) (hown : Own φ h.tr B ∧ (∀ j m, j < 262144 → hget j T ≠ .nb → φ j (verOf (hget j T)) = some m → m.B ≠ B) ∨ w.heap.size ≤ B) :
    Rel (φ.add id 0 ⟨B, base, n, cs.size⟩) ⟨nx, hset id (.bk c n 0 frz elem ex true) T⟩ w' ∧ ∀ n0, n0 ≤ id → Ext φ ⟨n0, h.tr⟩ w (φ.add id 0 ⟨B, base, n, cs.size⟩) ⟨nx, hset id (.bk c n 0 frz elem ex true) T⟩ w' := by
  have hle := φ.le_add id 0 ⟨B, base, n, cs.size⟩ (hnone 0)
  have hold : ∀ i v m, φ.add id 0 ⟨B, base, n, cs.size⟩ i v = some m → i ≠ id → φ i v = some m := fun i v m e k => by
    rw [Phi.add_other _ _ (fun q => k q.1)] at e; exact e
  have hBlt : B < w'.heap.size := by
    by_cases k : B < w'.heap.size
    · exact k
    · rw [Array.getElem?_eq_none (by omega)] at hB; simp at hB
  have hl : φ.add id 0 ⟨B, base, n, cs.size⟩ id (verOf (.bk c n 0 frz elem ex true)) = some ⟨B, base, n, cs.size⟩ := Phi.add_same _ _ _ _
  have hb : BlkOk (φ.add id 0 ⟨B, base, n, cs.size⟩) w' id (.bk c n 0 frz elem ex true) :=
    ⟨_, cs, fr, Phi.add_same _ _ _ _, rfl, hB, rfl, hn, hcap, fun i hi => let ⟨v, a, b, d⟩ := hc i hi; ⟨v, a, b.mono hle, d⟩, fun v hv => by rw [Phi.add_other _ _ (by omega)]; exact hnone v, fun _ => hfr, hex⟩
  refine ⟨R.put (id := id) (nx := nx) (l := ⟨B, base, n, cs.size⟩) hid hnx hnext (fun i hi _ => hT i hi) hle hold ?_ hsz hheap hb hl ?_, fun n0 hn0 => Ext.put (h := h) (id := id) (l := ⟨B, base, n, cs.size⟩) (by omega) (fun i hi _ => hT i hi) hle hold hsz hos htp hou (by omega) (by omega) (.inl hn0) hheap hl ?_⟩
  · intro v m e
    by_cases k : v = 0
    · subst k; rw [Phi.add_same] at e; cases e; exact ⟨hBlt, hn⟩
    · rw [Phi.add_other _ _ (by omega), hnone] at e; simp at e
  · intro j m hj hne hnb hm
    rcases hown with ⟨_, k⟩ | k
    · exact k j m hj hnb hm
    · have := (R.dom _ _ _ hm).2.1
      show m.B ≠ B
      omega
  · rcases hown with ⟨k, _⟩ | k
    · exact .inl k
    · exact .inr k

theorem Rel.fresh {φ : Phi} {h : H} {w : World} (R : Rel φ h w) : ∀ v, φ h.next v = none := fun v => by
  cases e : φ h.next v with
  | none => rfl
  | some l => have := (R.dom _ _ _ e).1; omega

theorem push_old (w : World) (o : Obj) (k : Nat) (h : k < w.heap.size) : (w.alloc o).heap[k]? = w.heap[k]? := Go.RowKit.Below.heap_alloc w o k h
theorem push_new (w : World) (o : Obj) : (w.alloc o).heap[w.heap.size]? = some o := by simp [World.alloc, -World.alloc_eq]


/-- how an operation that makes one new block ends -/
def APost (k : KV) (φ : Phi) (id : Nat) (h : H) (w : World) (c : Value) (w' : World) : Prop := ∃ v h' φ', k v h' = true ∧ RV φ' v c ∧ Rel φ' h' w' ∧ (∀ n0, n0 ≤ id → Ext φ ⟨n0, h.tr⟩ w φ' h' w') ∧ ∀ i u, i ≠ id → φ' i u = φ i u
def AopS (P : Program) (q : Operand → Option V) (o : Oper) (id : Nat) (h : H) (k : KV) : Prop := ∀ φ (ρ : Operand → Value) w, QR φ q ρ → Rel φ h w → id < h.next → (∀ v, φ id v = none) → ∃ c w', (execOp ρ o).run P w = .ok (.value c) w' ∧ APost k φ id h w c w'

theorem new_ok {o : Oper} {t : TypeId} {id : Nat} {h : H} {k : KV} {y : V} {u : (Operand → Value) → Value} (hm : newA id (oneT P t) (sizeT P t) t y h k = true) (hu : ∀ φ ρ, QR φ q ρ → RV φ y (u ρ)) (ho : ∀ (ρ : Operand → Value) (w : World), (execOp ρ o).run P w = .ok (.value (.pointer (some ⟨w.heap.size, 0, none⟩))) (w.alloc (.cells (u ρ).cells t))) :
    AopS P q o id h k := by
    intro φ ρ w r R hid hnone
    obtain ⟨h1, h2⟩ := both_true hm
    obtain ⟨h3, h6⟩ := both_true h2
    have h1 := ble_true h1; have h3 := ble_true h3
    obtain ⟨s1, s2, c', s3, s4, s5, s6⟩ := layV_true h6 (hu φ ρ r) (by rw [Nat.zero_add]; exact acap_fresh _ h3) (.inl h1)
    have hlen : (u ρ).cells.size = sizeT P t := s1
    obtain ⟨R', X⟩ := R.new hid (Nat.le_refl _) R.next hnone (T := h.tr) (c := c') (n := sizeT P t) (frz := 0) (elem := t) (ex := true) (cs := (u ρ).cells) (fr := (0, 0)) (base := 0) (B := w.heap.size) (w' := w.alloc (.cells (u ρ).cells t)) (fun _ _ => .inl rfl)
      (by rw [s4]; exact acap_fresh _ h3) (by omega) (fun i hi => by
        have hx : (u ρ).cells.toList[i]? = some ((u ρ).cells.toList[i]'(by simpa [hlen] using hi)) := List.getElem?_eq_getElem _
        refine ⟨(u ρ).cells.toList[i]'(by simpa [hlen] using hi), by rw [Nat.zero_add]; rw [← Array.getElem?_toList]; exact hx, ?_, s2 _ (List.getElem_mem _)⟩
        have := s6 i _ hx
        rw [Nat.zero_add] at this; exact this) (fun _ => ⟨rfl, hlen.symm⟩) (fun i _ _ => by simp) (push_new _ _) (by simp) (fun k hk _ => push_old _ _ _ hk) rfl rfl rfl (.inr (Nat.le_refl _))
    refine ⟨_, _, ho ρ w, _, _, _, s3, ?_, R', X, fun i v hi => Phi.add_other _ _ (fun z => hi z.1)⟩
    have := RV.p (φ := φ.add id 0 ⟨w.heap.size, 0, sizeT P t, (u ρ).cells.size⟩) (off := 0) (lim := sizeT P t) (Phi.add_same _ _ _ _) (Nat.le_refl _)
    exact this

theorem box_ok {o : Oper} {t : TypeId} {x : Operand} {id : Nat} {h : H} {k : KV} (hm : un q x (fun a => newA id (oneT P t) (sizeT P t) t a h k) = true) (ho : o.op = .box t x) : AopS P q o id h k := by
  obtain ⟨dst, op', ty, pos, aft, grd⟩ := o
  simp only at ho; subst ho
  obtain ⟨g, hx, hm⟩ := un_true hm
  exact new_ok (u := fun ρ => ρ x) hm (fun φ ρ r => r _ _ hx) fun ρ w => run_value (Instr.box t (ρ x)) _ _ _ rfl

theorem alloc_ok {o : Oper} {t : TypeId} {i : TypeInfo} {z : Value} {v : V} {id : Nat} {h : H} {k : KV} (hm : newA id (oneT P t) (sizeT P t) t v h k = true) (hi : P.info? t = some i) (hz : i.zero = some z) (hv : absV z = some v) (ho : o.op = .alloc t) : AopS P q o id h k := by
  obtain ⟨dst, op', ty, pos, aft, grd⟩ := o
  simp only at ho; subst ho
  refine new_ok (u := fun _ => z) hm (fun φ ρ r => absV_ok φ z v hv) fun ρ w => run_value (Instr.alloc t true (.tuple #[])) _ _ _ ?_
  unfold Instr.alloc zeroValue
  rw [Sem.run_bind, Sem.run_bind, run_info hi]
  simp only [Result.andThen_ok, hz]
  rfl

/-! slices -/
theorem iad_fun {t e : TypeId} {i : TypeInfo} (ht : P.underlying t = some (.slice e)) (hi : P.info? e = some i) : Fun2 P (iadV (sizeT P e)) (fun a b => Instr.indexAt t a b) := by
  intro φ x y k h c d hc hd w
  rcases onSl_true h with ⟨a, b, rfl, h2⟩ | ⟨id, off, len, ver, es, rfl, h2⟩
  · simp at h2
  · obtain ⟨n, rfl, h3⟩ := onW_true h2
    obtain ⟨h4, h5⟩ := both_true h3
    obtain ⟨h6, h7⟩ := both_true h5
    obtain ⟨h8, hk⟩ := both_true h7
    obtain rfl := beq_true h4
    have h6 := ble_true h6; have h8 := ble_true h8
    clear h h2 h3 h4 h5 h7
    obtain ⟨l, o, cap, e1, e2, e3, e4, e5, rfl⟩ := hc.inv_sl
    obtain ⟨hn, rfl⟩ := hd.inv_w
    obtain ⟨m, hm⟩ : ∃ m, m = n - bias := ⟨_, rfl⟩
    rw [← hm] at hk
    have hmn : (n : Int) - 9223372036854775808 = (m : Int) := by unfold bias at hm h6; omega
    have hlt : m < len := by unfold bias at hm h6 h8; omega
    clear hm h6 h8 hn
    rw [hmn]
    have he : o = l.base + off := e4 (by omega)
    refine ⟨_, .pointer (some ⟨l.B, l.base + (off + m * sizeT P e), none⟩), ?_, .p e1 e2, hk⟩
    show (Instr.indexAt t (.slice (some ⟨l.B, o, none⟩) len cap) (.int .i64 (m : Int))).run P w = _
    unfold Instr.indexAt
    rw [Sem.run_bind]
    show ((pure (IntKind.i64, (m : Int)) : Sem _).run P w).andThen _ = _
    rw [Sem.run_pure]
    simp only [Result.andThen_ok]
    simp only [Sem.run_bind, run_under ht, Result.andThen_ok, Sem.run_pure]
    rw [if_pos (by omega)]
    simp only [Sem.run_bind, run_size hi, Result.andThen_ok, Sem.run_pure, Int.toNat_natCast, add_addr]
    rw [he, Nat.add_assoc]

theorem iaa_fun {t e : TypeId} {n : Nat} {i : TypeInfo} (ht : P.underlying t = some (.array n e)) (hi : P.info? e = some i) : Fun2 P (iaaV (sizeT P e) n) (fun a b => Instr.indexAt t a b) := by
  intro φ x y k h c d hc hd w
  obtain ⟨id, off, lim, ver, rfl, h2⟩ := onP_true h
  obtain ⟨q, rfl, h3⟩ := onW_true h2
  obtain ⟨h6, h7⟩ := both_true h3
  obtain ⟨h8, hk⟩ := both_true h7
  have h6 := ble_true h6; have h8 := ble_true h8
  clear h h2 h3 h7
  obtain ⟨l, e1, e2, rfl⟩ := hc.inv_p
  obtain ⟨hn, rfl⟩ := hd.inv_w
  obtain ⟨m, hm⟩ : ∃ m, m = q - bias := ⟨_, rfl⟩
  rw [← hm] at hk
  have hmn : (q : Int) - 9223372036854775808 = (m : Int) := by unfold bias at hm h6; omega
  have hlt : m < n := by unfold bias at hm h6 h8; omega
  clear hm h6 h8 hn
  rw [hmn]
  refine ⟨_, .pointer (some ⟨l.B, l.base + (off + m * sizeT P e), none⟩), ?_, .p e1 e2, hk⟩
  show (Instr.indexAt t (.pointer (some ⟨l.B, l.base + off, none⟩)) (.int .i64 (m : Int))).run P w = _
  unfold Instr.indexAt
  rw [Sem.run_bind]
  show ((pure (IntKind.i64, (m : Int)) : Sem _).run P w).andThen _ = _
  rw [Sem.run_pure]
  simp only [Result.andThen_ok]
  simp only [Sem.run_bind, run_under ht, Result.andThen_ok, Sem.run_pure, Instr.sureAddr]
  rw [if_pos (by omega)]
  simp only [Sem.run_bind, run_size hi, Result.andThen_ok, Sem.run_pure, Int.toNat_natCast, add_addr]
  rw [Nat.add_assoc]

theorem RV.nat {φ : Phi} {m : Nat} (h : m < 9223372036854775808) : RV φ (.w (m + bias)) (goInt m) := by
  have := RV.w (φ := φ) (n := m + bias) (by unfold bias; omega)
  rw [show ((m + bias : Nat) : Int) - 9223372036854775808 = (m : Int) from by unfold bias; omega] at this
  exact this

theorem lenS_fun {ts : Array TypeId} {ty t : TypeId} (hts : ts[0]? = some t) (ht : P.underlying t = some .string) : Fun1 P lenS (fun v => Builtin.len_ ts ty #[v]) := by
  intro φ x k h c hc w
  obtain ⟨l, n, rfl, h2⟩ := onS_true h
  obtain ⟨h3, hk⟩ := both_true h2
  have h3 := ble_true h3
  clear h h2
  obtain ⟨s, rfl, rfl, _⟩ := hc.inv_s
  refine ⟨_, goInt s.size, ?_, RV.nat (by omega), hk⟩
  show (Builtin.len_ ts ty #[.string s]).run P w = _
  unfold Builtin.len_
  simp only [hts]
  show ((underlying t).bind _).run P w = _
  rw [Sem.run_bind', run_under ht]; rfl

theorem capL_fun {ty t e : TypeId} (ht : P.underlying t = some (.slice e)) : Fun1 P capL (fun v => Builtin.cap_ #[t] ty #[v]) := by
  intro φ x k h c hc w
  rcases onSl_true h with ⟨a, b, rfl, hk⟩ | ⟨_, _, _, _, _, _, h2⟩
  · obtain rfl := hc.inv_slnil
    refine ⟨_, goInt 0, by simp [Builtin.cap_, run_under ht], ?_, hk⟩
    have := RV.nat (φ := φ) (m := 0) (by omega)
    rw [Nat.zero_add] at this; exact this
  · simp at h2
theorem copD_true {φ : Phi} {x : V} {c : Value} {k : V → Bool} (h : copD x k = true) (hc : RV φ x c) : (∃ A n m, c = .slice A n m) ∧ k (.w bias) = true := by
  rcases onSl_true h with ⟨a, b, rfl, hk⟩ | ⟨_, _, _, _, _, rfl, hk⟩
  · obtain rfl := hc.inv_slnil; exact ⟨⟨_, _, _, rfl⟩, hk⟩
  · obtain ⟨_, _, _, _, _, _, _, _, rfl⟩ := hc.inv_sl; exact ⟨⟨_, _, _, rfl⟩, hk⟩
theorem copL_fun {ty t u e : TypeId} (ht : P.underlying t = some (.slice e)) (hs : (P.info? e).map (·.size) = some 1) : Fun2 P copL (fun x y => Builtin.copy_ #[t, u] ty #[x, y]) := by
  intro φ x y k h c d hc hd w
  have key : ∀ {A n m B p}, c = .slice A n m → d = .slice B 0 p → k (.w bias) = true → ∃ v r, (Builtin.copy_ #[t, u] ty #[c, d]).run P w = .ok r w ∧ RV φ v r ∧ k v = true := by
    rintro A n m B p rfl rfl hk
    refine ⟨_, goInt 0, run_copy_none w t u ty e A B n m 0 p ht hs (Nat.min_eq_left (Nat.zero_le _)), ?_, hk⟩
    have := RV.nat (φ := φ) (m := 0) (by omega)
    rw [Nat.zero_add] at this; exact this
  rcases onSl_true h with ⟨a, b, rfl, hk⟩ | ⟨_, _, _, _, _, rfl, hk⟩
  · obtain rfl := hd.inv_slnil
    obtain ⟨⟨_, _, _, e1⟩, h2⟩ := copD_true hk hc
    exact key e1 rfl h2
  · obtain ⟨h0, hk⟩ := both_true hk
    obtain rfl := beq_true h0
    obtain ⟨_, _, _, _, _, _, _, _, rfl⟩ := hd.inv_sl
    obtain ⟨⟨_, _, _, e1⟩, h2⟩ := copD_true hk hc
    exact key e1 rfl h2
theorem lenL_fun {ts : Array TypeId} {ty t e : TypeId} (hts : ts[0]? = some t) (ht : P.underlying t = some (.slice e)) : Fun1 P lenL (fun v => Builtin.len_ ts ty #[v]) := by
  intro φ x k h c hc w
  cases hos : vtagOS x with
  | true =>
    unfold lenL at h
    rw [hos, bs_true] at h
    rw [vtagOS_true hos] at hc
    cases hc with
    | osl =>
      rename_i A len cap
      refine ⟨_, goInt len, ?_, .nn (by omega), h⟩
      show (Builtin.len_ ts ty #[.slice A len cap]).run P w = _
      unfold Builtin.len_
      simp only [hts]
      show ((underlying t).bind _).run P w = _
      rw [Sem.run_bind', run_under ht]; rfl
  | false =>
  unfold lenL at h
  rw [hos, bs_false] at h
  rcases onSl_true h with ⟨a, b, rfl, hk⟩ | ⟨id, off, len, ver, es, rfl, h2⟩
  · cases hc
    refine ⟨_, goInt 0, ?_, ?_, hk⟩
    · show (Builtin.len_ ts ty #[.slice none 0 0]).run P w = _
      unfold Builtin.len_
      simp only [hts]
      show ((underlying t).bind _).run P w = _
      rw [Sem.run_bind', run_under ht]; rfl
    · have := RV.nat (φ := φ) (m := 0) (by omega)
      rw [Nat.zero_add] at this; exact this
  · obtain ⟨h3, hk⟩ := both_true h2
    have h3 := ble_true h3
    clear h h2
    obtain ⟨l, o, cap, e1, e2, e3, e4, e5, rfl⟩ := hc.inv_sl
    refine ⟨_, goInt len, ?_, RV.nat (by omega), hk⟩
    show (Builtin.len_ ts ty #[.slice (some ⟨l.B, o, none⟩) len cap]).run P w = _
    unfold Builtin.len_
    simp only [hts]
    show ((underlying t).bind _).run P w = _
    rw [Sem.run_bind', run_under ht]; rfl

/-! bounds -/
theorem bnd_true {φ : Phi} {x : Option V} {d : Nat} {k : Nat → Bool} (h : bnd x d k = true) {y : Option Value} (r : (x = none ∧ y = none) ∨ ∃ v c, x = some v ∧ y = some c ∧ RV φ v c) : ∃ m, k m = true ∧ (y = none ∧ m = d ∨ y = some (.int .i64 (m : Int))) := by
  rcases r with ⟨rfl, rfl⟩ | ⟨v, c, rfl, rfl, rv⟩
  · exact ⟨d, h, .inl ⟨rfl, rfl⟩⟩
  · obtain ⟨i, rfl, h2⟩ := onW_true (show onW v _ = true from h)
    obtain ⟨h3, h4⟩ := both_true h2
    have h3 := ble_true h3
    obtain ⟨_, rfl⟩ := rv.inv_w
    refine ⟨_, h4, .inr ?_⟩
    simp only [Nat.sub_eq]
    unfold bias at h3 ⊢
    rw [show (i : Int) - 9223372036854775808 = ((i - 9223372036854775808 : Nat) : Int) from by omega]
theorem bdo_true {φ : Phi} {ρ : Operand → Value} (r : QR φ q ρ) {x : Option Operand} {f : Option V → Bool} (h : bdo q x f = true) : ∃ l, f l = true ∧ ((l = none ∧ x.map ρ = none) ∨ ∃ v c, l = some v ∧ x.map ρ = some c ∧ RV φ v c) := by
  unfold bdo at h
  split at h
  · exact ⟨none, h, .inl ⟨rfl, rfl⟩⟩
  · split at h
    · exact ⟨_, h, .inr ⟨_, _, rfl, rfl, r _ _ ‹_›⟩⟩
    · simp at h

theorem sliceBounds_run {isSlice : Bool} {len cap : Nat} {lo hi : Option Value} {a b : Nat} (hb : hi = none ∧ b = len ∨ hi = some (.int .i64 (b : Int))) (ha : lo = none ∧ a = 0 ∨ lo = some (.int .i64 (a : Int))) (h1 : b ≤ cap) (h2 : a ≤ b) (w : World) :
    (Instr.sliceBounds isSlice len cap lo hi none).run P w = .ok (a, b, cap) w := by
  unfold Instr.sliceBounds
  rcases hb with ⟨rfl, rfl⟩ | rfl <;> rcases ha with ⟨rfl, rfl⟩ | rfl <;>
    simp [run_sliceBound, h1, h2]

theorem sstr_ok {o : Oper} {t : TypeId} {x : Operand} {lo hi : Option Operand} {k : V → Bool} (hm : bdo q lo (fun l => bdo q hi fun u => un q x fun a => sstr l u a k) = true) (ho : o.op = .slice t x lo hi none) (ht : P.underlying t = some .string) : PopS P q o k := by
  obtain ⟨dst, op', ty, pos, aft, grd⟩ := o
  simp only at ho; subst ho
  intro φ ρ hh w r R
  obtain ⟨l, hm, hlo⟩ := bdo_true r hm
  obtain ⟨u, hm, hhi⟩ := bdo_true r hm
  obtain ⟨g, hx, hm⟩ := un_true hm
  obtain ⟨len, n, e1, h2⟩ := onS_true hm
  obtain ⟨b, h3, hb⟩ := bnd_true h2 hhi
  obtain ⟨h4, h5⟩ := both_true h3
  obtain ⟨c, h6, hc⟩ := bnd_true h5 hlo
  obtain ⟨h7, h8⟩ := both_true h6
  have h4 := ble_true h4; have h7 := ble_true h7
  have rv := r _ _ hx
  rw [e1] at rv
  obtain ⟨s, e2, rfl, rfl⟩ := rv.inv_s
  refine ⟨_, .string (s.extract c b), ?_, ?_, h8⟩
  · refine run_value (Instr.sliceAt t (ρ x) (lo.map ρ) (hi.map ρ) none) _ _ _ ?_
    unfold Instr.sliceAt
    rw [Sem.run_bind, run_under ht]
    simp only [Result.andThen_ok]
    unfold Instr.slice
    rw [Sem.run_bind, run_under ht, e2]
    simp only [Result.andThen_ok]
    show ((Instr.sliceBounds false s.size s.size (lo.map ρ) (hi.map ρ) none).bind _).run P w = _
    rw [Sem.run_bind', sliceBounds_run hb hc h4 h7]
    rfl
  · have hd : (s.extract c b).data.toList = (s.data.toList.drop c).take (b - c) := by simp [ByteArray.data_extract]
    have hs : (s.extract c b).size = b - c := by rw [size_data, hd, List.length_take, List.length_drop, ← size_data]; omega
    refine .s hs ?_
    rw [hd, pack_take, pack_drop]
    show _ = (pack s.data.toList) >>> (8 * c) % 256 ^ (b - c)
    rw [Nat.shiftRight_eq_div_pow, Nat.pow_mul]

theorem ssli_ok {o : Oper} {t el : TypeId} {i : TypeInfo} {x : Operand} {lo hi : Option Operand} {k : V → Bool} (hm : bdo q lo (fun l => bdo q hi fun u => un q x fun a => ssli (sizeT P el) l u a k) = true) (ho : o.op = .slice t x lo hi none) (ht : P.underlying t = some (.slice el)) (hi' : P.info? el = some i) : PopS P q o k := by
  obtain ⟨dst, op', ty, pos, aft, grd⟩ := o
  simp only at ho; subst ho
  intro φ ρ hh w r R
  obtain ⟨l, hm, hlo⟩ := bdo_true r hm
  obtain ⟨u, hm, hhi⟩ := bdo_true r hm
  obtain ⟨g, hx, hm⟩ := un_true hm
  have rv := r _ _ hx
  have hrun : ∀ (A : Option Addr) (len cap b c : Nat), ρ x = .slice A len cap → (hi.map ρ = none ∧ b = len ∨ hi.map ρ = some (.int .i64 (b : Int))) → (lo.map ρ = none ∧ c = 0 ∨ lo.map ρ = some (.int .i64 (c : Int))) → b ≤ cap → c ≤ b →
      (execOp ρ ⟨dst, .slice t x lo hi none, ty, pos, aft, grd⟩).run P w = .ok (.value (.slice (if cap = c then A else A.map (·.add (c * sizeT P el))) (b - c) (cap - c))) w := fun A len cap b c e2 hb hc h1 h2 => by
    refine run_value (Instr.sliceAt t (ρ x) (lo.map ρ) (hi.map ρ) none) _ _ _ ?_
    unfold Instr.sliceAt
    rw [Sem.run_bind, run_under ht]
    simp only [Result.andThen_ok]
    unfold Instr.slice
    rw [Sem.run_bind, run_under ht, e2]
    simp only [Result.andThen_ok]
    show ((Instr.sliceBounds true len cap (lo.map ρ) (hi.map ρ) none).bind _).run P w = _
    rw [Sem.run_bind', sliceBounds_run hb hc h1 h2]
    show ((sizeOf el).bind _).run P w = _
    rw [Sem.run_bind', run_size hi']
    rfl
  rcases onSl_true hm with ⟨q1, q2, e1, h2⟩ | ⟨id, off, len, ver, es, e1, h2⟩
  · obtain ⟨b, h3, hb⟩ := bnd_true h2 hhi
    obtain ⟨h4, h5⟩ := both_true h3
    obtain ⟨c, h6, hc⟩ := bnd_true h5 hlo
    obtain ⟨h7, h8⟩ := both_true h6
    have h4 := ble_true h4; have h7 := ble_true h7
    rw [e1] at rv
    have e2 : ρ x = .slice none 0 0 := rv.inv_slnil
    obtain rfl : b = 0 := by omega
    obtain rfl : c = 0 := by omega
    exact ⟨_, .slice none 0 0, hrun _ _ _ _ _ e2 hb hc (by omega) (by omega), .slnil, h8⟩
  · obtain ⟨h3, h4⟩ := both_true h2
    obtain rfl := beq_true h3
    obtain ⟨b, h5, hb⟩ := bnd_true h4 hhi
    obtain ⟨h6, h7⟩ := both_true h5
    obtain ⟨c, h8, hc⟩ := bnd_true h7 hlo
    obtain ⟨h9, h10⟩ := both_true h8
    have h6 := ble_true h6; have h9 := ble_true h9
    rw [e1] at rv
    obtain ⟨L, o, cap, f1, f2, f3, f4, f5, e2⟩ := rv.inv_sl
    refine ⟨_, _, hrun _ _ _ _ _ e2 hb hc (by omega) h9, ?_, h10⟩
    have hbc : (b - c) * sizeT P el + c * sizeT P el = b * sizeT P el := by rw [← Nat.add_mul]; congr 1; omega
    have hcc : (cap - c) * sizeT P el + c * sizeT P el = cap * sizeT P el := by rw [← Nat.add_mul]; congr 1; omega
    have hbl : b * sizeT P el ≤ len * sizeT P el := Nat.mul_le_mul_right _ h6
    by_cases hcap : cap = c
    · rw [if_pos hcap]
      exact .sl f1 (by omega) (by omega) (fun k => by omega) (by omega)
    · rw [if_neg hcap]
      simp only [Option.map_some, add_addr]
      exact .sl f1 (by omega) (by omega) (fun k => by rw [f4 (by omega), Nat.add_assoc]) (by omega)

theorem sarr_ok {o : Oper} {t el : TypeId} {n : Nat} {i : TypeInfo} {x : Operand} {lo hi : Option Operand} {k : V → Bool} (hm : bdo q lo (fun l => bdo q hi fun u => un q x fun a => sarr (sizeT P el) n l u a k) = true) (ho : o.op = .slice t x lo hi none) (ht : P.underlying t = some (.array n el)) (hi' : P.info? el = some i) : PopS P q o k := by
  obtain ⟨dst, op', ty, pos, aft, grd⟩ := o
  simp only at ho; subst ho
  intro φ ρ hh w r R
  obtain ⟨l, hm, hlo⟩ := bdo_true r hm
  obtain ⟨u, hm, hhi⟩ := bdo_true r hm
  obtain ⟨g, hx, hm⟩ := un_true hm
  have rv := r _ _ hx
  obtain ⟨id, off, lim, ver, e1, h2⟩ := onP_true hm
  obtain ⟨h3, h4⟩ := both_true h2
  have h3 := ble_true h3
  obtain ⟨b, h5, hb⟩ := bnd_true h4 hhi
  obtain ⟨h6, h7⟩ := both_true h5
  obtain ⟨c, h8, hc⟩ := bnd_true h7 hlo
  obtain ⟨h9, h10⟩ := both_true h8
  have h6 := ble_true h6; have h9 := ble_true h9
  rw [e1] at rv
  obtain ⟨L, f1, f2, e2⟩ := rv.inv_p
  have hbc : (b - c) * sizeT P el + c * sizeT P el = b * sizeT P el := by rw [← Nat.add_mul]; congr 1; omega
  have hcc : (n - c) * sizeT P el + c * sizeT P el = n * sizeT P el := by rw [← Nat.add_mul]; congr 1; omega
  have hbl : b * sizeT P el ≤ n * sizeT P el := Nat.mul_le_mul_right _ h6
  have g5 := (R.dom _ _ _ f1).2.2
  refine ⟨_, .slice (some (if n = c then ⟨L.B, L.base + off, none⟩ else Addr.add ⟨L.B, L.base + off, none⟩ (c * sizeT P el))) (b - c) (n - c), ?_, ?_, h10⟩
  · refine run_value (Instr.sliceAt t (ρ x) (lo.map ρ) (hi.map ρ) none) _ _ _ ?_
    unfold Instr.sliceAt
    rw [Sem.run_bind, run_under ht]
    simp only [Result.andThen_ok]
    rw [e2]
    show ((Instr.sliceBounds false n n (lo.map ρ) (hi.map ρ) none).bind _).run P w = _
    rw [Sem.run_bind', sliceBounds_run hb hc h6 h9]
    show ((sizeOf el).bind _).run P w = _
    rw [Sem.run_bind', run_size hi']
    rfl
  · by_cases hcap : n = c
    · rw [if_pos hcap]
      exact .sl f1 (by omega) (by omega) (fun k => by omega) (by omega)
    · rw [if_neg hcap, add_addr]
      exact .sl f1 (by omega) (by omega) (fun k => by rw [Nat.add_assoc]) (by omega)

end Go.Bvm
