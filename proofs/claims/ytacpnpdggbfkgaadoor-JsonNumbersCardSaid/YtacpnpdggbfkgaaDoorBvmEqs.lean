/- The abstract machine: structs held against structs. Conditions: none. -/
import Derived.Test.YtacpnpdggbfkgaaDoorBvmUns
import Derived.Laws.StructEq
set_option linter.unusedVariables false
namespace Go.Bvm
variable {P : Program} {q : Operand → Option V}

theorem onI_true' {v : V} {k : IntKind → Int → Bool} (h : onI v k = true) : ∃ q n a b, v = .x (.int q n) a b ∧ k q n = true := by
  cases v with
  | x g a b => cases g <;> first | exact Bool.noConfusion (show false = true from h) | exact ⟨_, _, _, _, rfl, h⟩
  | _ => exact Bool.noConfusion (show false = true from h)

theorem onCons_true {v : V} {k : V → V → Bool} (h : onCons v k = true) : ∃ a b, v = .x .cons a b ∧ k a b = true := by
  cases v <;> first | exact Bool.noConfusion (show false = true from h) | skip
  rename_i g a b
  cases g <;> first | exact Bool.noConfusion (show false = true from h) | skip
  exact ⟨_, _, rfl, h⟩
theorem onNil_true {v : V} {k : Bool} (h : onNil v k = true) : ∃ a b, v = .x .nil a b ∧ k = true := by
  cases v <;> first | exact Bool.noConfusion (show false = true from h) | skip
  rename_i g a b
  cases g <;> first | exact Bool.noConfusion (show false = true from h) | skip
  exact ⟨_, _, rfl, h⟩

theorem RV.inv_agg' {φ : Phi} {a b : V} {c : Value} (h : RV φ (.x .agg a b) c) : ∃ l : List Value, c = .agg ⟨l⟩ ∧ RL φ a l := by cases h with | agg r _ => exact ⟨_, rfl, r⟩

theorem run_conv' {o : Oper} {s t : TypeId} {x : Operand} (ho : o.op = .convert s t x) {ρ : Operand → Value} {w w' : World} {c : Value} (h : (convert s t (ρ x)).run P w = .ok c w') : (execOp ρ o).run P w = .ok (.value c) w' := by
  obtain ⟨dst, op', ty, pos, aft, grd⟩ := o
  simp only at ho; subst ho
  exact run_value (convert s t (ρ x)) _ _ _ h

/-- one field -/
theorem eq1_true {φ : Phi} {c : Nat} {x y : V} {k : Bool → Bool} {u v : Value} (h : eq1 c x y k = true) (rx : RV φ x u) (ry : RV φ y v) {t : TypeId} (ht : (c = 0 ∧ ∃ q, P.underlying t = some (.int q)) ∨ (c = 1 ∧ P.underlying t = some .string) ∨ (c = 2 ∧ P.underlying t = some .bool)) (w : World) (d : Nat) :
    ∃ r, (Op.equalIn (d + 1) t u v).run P w = .ok r w ∧ k r = true := by
  rcases ht with ⟨rfl, q, ht⟩ | ⟨rfl, ht⟩ | ⟨rfl, ht⟩
  · have h : eqI x y k = true := h
    unfold eqI at h
    cases hw : isW x with
    | true =>
      rw [hw, bs_true] at h
      obtain ⟨a, e1, h1⟩ := onW_true h
      obtain ⟨b, e2, h2⟩ := onW_true h1
      rw [e1] at rx; rw [e2] at ry
      obtain ⟨_, rfl⟩ := rx.inv_w
      obtain ⟨_, rfl⟩ := ry.inv_w
      refine ⟨_, run_equalIn_int w d t _ _ _ _ ht, ?_⟩
      rw [show (((a : Int) - 9223372036854775808) == ((b : Int) - 9223372036854775808)) = Nat.beq a b from by
        rw [Bool.eq_iff_iff]; simp; omega]
      exact h2
    | false =>
      rw [hw, bs_false] at h
      cases hy : isY x with
      | true =>
        rw [hy, bs_true] at h
        obtain ⟨a, e1, h1⟩ := onY_true h
        obtain ⟨b, e2, h2⟩ := onY_true h1
        rw [e1] at rx; rw [e2] at ry
        obtain ⟨_, rfl⟩ := rx.inv_y
        obtain ⟨_, rfl⟩ := ry.inv_y
        refine ⟨_, run_equalIn_int w d t _ _ _ _ ht, ?_⟩
        rw [show ((a : Int) == (b : Int)) = Nat.beq a b from by rw [Bool.eq_iff_iff]; simp; omega]
        exact h2
      | false =>
        rw [hy, bs_false] at h
        obtain ⟨q1, n, _, _, e1, h1⟩ := onI_true' h
        obtain ⟨q2, m, _, _, e2, h2⟩ := onI_true' h1
        obtain ⟨h3, h4⟩ := both_true h2
        have h3 := of_decide_eq_true h3
        rw [e1] at rx; rw [e2] at ry
        obtain ⟨_, _, rfl⟩ := rx.inv_int
        obtain ⟨_, _, rfl⟩ := ry.inv_int
        subst h3
        refine ⟨_, run_equalIn_int w d t _ _ _ _ ht, ?_⟩
        rw [show (n == m) = decide (n = m) from by rw [Bool.eq_iff_iff]; simp]
        exact h4
  · have h : (onS x fun l n => onS y fun l' n' => k (seqB l n l' n')) = true := h
    obtain ⟨l, n, e1, h1⟩ := onS_true h
    obtain ⟨l', n', e2, h2⟩ := onS_true h1
    rw [e1] at rx; rw [e2] at ry
    obtain ⟨s, rfl, rfl, rfl⟩ := rx.inv_s
    obtain ⟨s', rfl, rfl, rfl⟩ := ry.inv_s
    refine ⟨_, run_equalIn_string w d t _ _ ht, ?_⟩
    rw [← seqB_eq]; exact h2
  · have h : (onT x fun a => onT y fun b => k (bs a b (nots b))) = true := h
    obtain ⟨a, e1, h1⟩ := onT_true h
    obtain ⟨b, e2, h2⟩ := onT_true h1
    rw [e1] at rx; rw [e2] at ry
    obtain rfl := rx.inv_t
    obtain rfl := ry.inv_t
    refine ⟨_, run_equalIn_bool' w d t _ _ ht, ?_⟩
    rw [show (a == b) = bs a b (nots b) from by cases a <;> cases b <;> rfl]
    exact h2

theorem run_part_one {t : TypeId} {d : TypeDesc} (ht : P.underlying t = some d) (hone : oneT P t = true) {cs : Array Value} {off : Nat} {v : Value} (hv : cs[off]? = some v) (w : World) : (Go.part t cs off).run P w = .ok v w := by
  unfold Go.part
  rw [Sem.run_bind, run_isAgg ht, hone]
  simp [hv]

theorem eqLs_true {φ : Phi} (w : World) (d : Nat) : ∀ (fs : List Field) (i : Nat) (ks : List Nat) (l m : V) (xs ys : List Value) (k : Bool → Bool) (X Y : Array Value), kindsL P fs i = some ks → eqLs ks l m k = true → RL φ l xs → RL φ m ys →
    (∀ (j : Nat) v, xs[j]? = some v → X[i + j]? = some v) → (∀ (j : Nat) v, ys[j]? = some v → Y[i + j]? = some v) → ∃ r, (Op.eqFields (d + 1) X Y fs).run P w = .ok r w ∧ k r = true
  | [], i, ks, l, m, xs, ys, k, X, Y, hk, h, _, _, _, _ => by
    simp only [kindsL, Option.some.injEq] at hk
    subst hk
    obtain ⟨_, _, _, h1⟩ := onNil_true (show onNil l (onNil m (k true)) = true from h)
    obtain ⟨_, _, _, h2⟩ := onNil_true h1
    exact ⟨true, rfl, h2⟩
  | f :: fs, i, ks, l, m, xs, ys, k, X, Y, hk, h, hl, hm, hX, hY => by
    simp only [kindsL] at hk
    split at hk
    rotate_left
    · simp at hk
    rename_i hf
    obtain ⟨hoff, hname⟩ := hf
    have key : ∀ (c : Nat) (r : List Nat), ks = c :: r → kindsL P fs (i + 1) = some r → oneT P f.type = true → ((c = 0 ∧ ∃ q, P.underlying f.type = some (.int q)) ∨ (c = 1 ∧ P.underlying f.type = some .string) ∨ (c = 2 ∧ P.underlying f.type = some .bool)) →
        ∃ r, (Op.eqFields (d + 1) X Y (f :: fs)).run P w = .ok r w ∧ k r = true := by
      intro c r hks hr hone ht
      subst hks
      obtain ⟨a, l', e1, h1⟩ := onCons_true (show onCons l (fun a x' => onCons m fun b y' => eq1 c a b fun r1 => eqLs r x' y' fun q => k (bs r1 q false)) = true from h)
      obtain ⟨b, m', e2, h2⟩ := onCons_true h1
      rw [e1] at hl; rw [e2] at hm
      cases hl with
      | cons ha hl' =>
        cases hm with
        | cons hb hm' =>
          rename_i u us v vs
          obtain ⟨r1, g1, g2⟩ := eq1_true (P := P) h2 ha hb ht w d
          obtain ⟨r2, g3, g4⟩ := eqLs_true w d fs (i + 1) r l' m' us vs _ X Y hr g2 hl' hm' (fun j z hz => by have := hX (j + 1) z (by simpa using hz); rw [show i + 1 + j = i + (j + 1) from by omega]; exact this) (fun j z hz => by have := hY (j + 1) z (by simpa using hz); rw [show i + 1 + j = i + (j + 1) from by omega]; exact this)
          have hd : ∃ dd, P.underlying f.type = some dd := by rcases ht with ⟨_, q, z⟩ | ⟨_, z⟩ | ⟨_, z⟩ <;> exact ⟨_, z⟩
          obtain ⟨dd, hd⟩ := hd
          have p1 := run_part_one hd hone (cs := X) (off := f.offset) (v := u) (by have := hX 0 u rfl; rw [Nat.add_zero] at this; rw [hoff]; exact this) w
          have p2 := run_part_one hd hone (cs := Y) (off := f.offset) (v := v) (by have := hY 0 v rfl; rw [Nat.add_zero] at this; rw [hoff]; exact this) w
          unfold Op.eqFields
          rw [if_pos hname, Sem.run_bind, p1]
          simp only [Result.andThen_ok]
          rw [Sem.run_bind, p2]
          simp only [Result.andThen_ok]
          rw [Sem.run_bind, g1]
          simp only [Result.andThen_ok]
          cases r1 with
          | true => exact ⟨r2, g3, g4⟩
          | false => exact ⟨false, rfl, g4⟩
    split at hk
    · rename_i q l' hu hr
      simp only [Option.some.injEq] at hk
      exact key 0 l' hk.symm hr (by unfold oneT; rw [hu]) (.inl ⟨rfl, _, hu⟩)
    · rename_i l' hu hr
      simp only [Option.some.injEq] at hk
      exact key 1 l' hk.symm hr (by unfold oneT; rw [hu]) (.inr (.inl ⟨rfl, hu⟩))
    · rename_i l' hu hr
      simp only [Option.some.injEq] at hk
      exact key 2 l' hk.symm hr (by unfold oneT; rw [hu]) (.inr (.inr ⟨rfl, hu⟩))
    · simp at hk

theorem eqAg_ok {o : Oper} {op : BinOp} {t u : TypeId} {x y : Operand} {ks : List Nat} {f : Bool → Bool} {k : V → Bool} (hk : flatK P t = some ks) (hop : op = .eql ∧ f = idB ∨ op = .neq ∧ f = nots) (h : bi q x y (fun a b => eqAg ks f a b k) = true) (ho : o.op = .binOp op t x y u) : PopS P q o k := by
  intro φ ρ hh w r R
  obtain ⟨g, g', hx, hy, hm⟩ := bi_true h
  have rx := r _ _ hx
  have ry := r _ _ hy
  obtain ⟨l, _, e1, h1⟩ := onAgg_true hm
  obtain ⟨m, _, e2, h2⟩ := onAgg_true h1
  rw [e1] at rx; rw [e2] at ry
  unfold flatK at hk
  split at hk
  rotate_left
  · simp at hk
  rename_i fs ht
  split at hk
  rotate_left
  · simp at hk
  rename_i hp
  obtain ⟨xs, ex, hxs⟩ := rx.inv_agg'
  obtain ⟨ys, ey, hys⟩ := ry.inv_agg'
  have hf : P.fieldsOf t = fs := by unfold Program.fieldsOf; rw [ht]
  obtain ⟨b, g1, g2⟩ := eqLs_true (P := P) w 9998 fs.toList 0 ks l m xs ys _ ⟨xs⟩ ⟨ys⟩ hk h2 hxs hys (fun j v hj => by simpa using hj) (fun j v hj => by simpa using hj)
  have heq : (Op.equalIn 10000 t (.agg ⟨xs⟩) (.agg ⟨ys⟩)).run P w = .ok b w := by
    rw [show (10000 : Nat) = 9999 + 1 from rfl, run_equalIn_agg w 9999 t _ _ (by rw [hf]; exact ht) hp.1, hf]
    exact g1
  obtain ⟨dst, op', ty, pos, aft, grd⟩ := o
  simp only at ho; subst ho
  have hrun : ∀ c, (Go.binOp op t (ρ x) (ρ y)).run P w = .ok c w → (execOp ρ ⟨dst, .binOp op t x y u, ty, pos, aft, grd⟩).run P w = .ok (.value c) w := fun c hc => by
    refine run_value (do eqGuard op t x y (ρ x) (ρ y); Go.binOp op t (ρ x) (ρ y)) _ _ _ ?_
    rw [Sem.run_bind]
    have : (eqGuard op t x y (ρ x) (ρ y)).run P w = .ok () w := by
      rw [ex, ey]; exact run_eqGuard_agg w op t x y _ _ hp.2
    rw [this]; exact hc
  rcases hop with ⟨rfl, rfl⟩ | ⟨rfl, rfl⟩
  · exact ⟨_, .bool b, hrun _ (by rw [ex, ey, run_eql_struct, heq]; rfl), .t, g2⟩
  · refine ⟨_, .bool (!b), hrun _ (by rw [ex, ey, run_neq_struct, heq]; rfl), .t, ?_⟩
    rw [show (!b) = nots b from by cases b <;> rfl]; exact g2

theorem cvS_ok {o : Oper} {s e : TypeId} {x : Operand} {h : H} {k : KV} (hm : un q x (fun a => cvS a h k) = true) (ho : o.op = .convert s s x) (hs : P.underlying s = some (.slice e)) (he : P.underlying e = some (.int .u8)) {φ : Phi} {ρ : Operand → Value} {w : World} (r : QR φ q ρ) (R : Rel φ h w) : OpRun P (execOp ρ o) w (FPost k φ h w) := by
  obtain ⟨g, hx, hm⟩ := un_true hm
  have rx := r _ _ hx
  unfold cvS at hm
  rcases onSl_true hm with ⟨q1, q2, e1, h2⟩ | ⟨id, off, len, ver, es, e1, h2⟩
  · simp at h2
  obtain ⟨h3, h4⟩ := both_true h2
  have h3 := ble_true h3
  obtain ⟨c, size, bver, frz, elem, ex, own, e2, h5⟩ := onBk_true h4
  obtain ⟨hown, h6⟩ := both_true h5
  obtain ⟨h7, h8⟩ := both_true h6
  obtain rfl := beq_true h7
  have rx0 := rx
  rw [e1] at rx
  obtain ⟨l, oo, cap, f1, f2, f3, f4, f5, e3⟩ := rx.inv_sl
  obtain ⟨l', cs, fr, f1', b1, b2, b3, b4, b5, b6, b7, b8, b9⟩ := R.bk f1 e2
  rw [f1] at f1'; cases f1'
  have hid := R.lt f1
  obtain ⟨fr', g1⟩ := freeze_heap w l.B cs.size 1 b2
  obtain ⟨g2, g3, g4, g5⟩ := freeze_rest w l.B cs.size 1
  have g6 : ∀ B, B ≠ l.B → (w.freeze ⟨l.B, cs.size, none⟩ 1).heap[B]? = w.heap[B]? := fun B hB => freeze_other w l.B cs.size 1 hB
  have hb : BlkOk φ (w.freeze ⟨l.B, cs.size, none⟩ 1) id (.bk c size ver frz elem ex false) :=
    ⟨l, cs, fr', f1, b1, g1, b3, b4, b5, b6, b7, fun q => by simp at q, b9⟩
  have hOwn : Own φ h.tr l.B := ⟨id, l, hid, by rw [e2]; exact hown, by rw [e2]; exact f1, rfl⟩
  have R' := R.put (φ' := φ) (w' := w.freeze ⟨l.B, cs.size, none⟩ 1) (id := id) (nx := h.next) (b := .bk c size ver frz elem ex false) (T := h.tr) (l := l) (R.dom _ _ _ f1).1 (Nat.le_refl _) R.next (fun _ _ _ => .inl rfl) φ.le_refl (fun _ _ _ q _ => q)
    (fun v m q => by rw [g2]; exact (R.dom _ _ _ q).2) (by omega) (fun B _ hB => g6 B hB) hb f1
    (fun j m hj hne hnb hjm => fun q => R.apart id j hid hj (Ne.symm hne) (by rw [e2]; exact hown) hnb l m (by rw [e2]; exact f1) hjm q.symm)
  have X := Ext.put (h := h) (φ := φ) (φ' := φ) (w := w) (w' := w.freeze ⟨l.B, cs.size, none⟩ 1) (id := id) (n0 := h.next) (nx := h.next) (b := .bk c size ver frz elem ex false) (T := h.tr) (l := l) hid (fun _ _ _ => .inl rfl) φ.le_refl (fun _ _ _ q _ => q) (by omega) g3 g4 g5 R.next (Nat.le_refl _) (.inr (by rw [e2]; simp)) (fun B _ hB => g6 B hB) f1 (.inl hOwn)
  refine .inl ⟨_, _, run_conv' ho ?_, _, _, φ, h8, rx0, R', X⟩
  rw [e3]
  have hsh := shape_of_block b2
  simp [convert, run_underlying hs, run_underlying he, markStringish, hsh]

end Go.Bvm
