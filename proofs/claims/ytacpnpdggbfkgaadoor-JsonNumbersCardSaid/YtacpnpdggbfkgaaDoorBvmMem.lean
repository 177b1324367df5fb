/- The abstract machine: loads, stores, new blocks. Conditions: none. -/
import Derived.Test.YtacpnpdggbfkgaaDoorBvmHeap
set_option linter.unusedVariables false
namespace Go.Bvm
variable {P : Program} {G : Nat → Bool} {N : Fr} {q : Operand → Option V}

theorem under_info {t : TypeId} {d : TypeDesc} (h : P.underlying t = some d) : ∃ i, P.info? t = some i := by
  unfold Program.underlying at h
  cases e : P.info? t with
  | none => rw [e] at h; simp at h
  | some i => exact ⟨i, rfl⟩
theorem hasT_under {t : TypeId} (h : hasT P t = true) : ∃ d, P.underlying t = some d := by
  unfold hasT at h; split at h
  · exact ⟨_, ‹_›⟩
  · simp at h
theorem run_size {t : TypeId} {i : TypeInfo} (h : P.info? t = some i) (w : World) : (sizeOf t).run P w = .ok (sizeT P t) w := by
  unfold sizeOf sizeT
  rw [Sem.run_bind, run_info h, h]; rfl
theorem run_isAgg {t : TypeId} {d : TypeDesc} (h : P.underlying t = some d) (w : World) : (isAgg t).run P w = .ok (!oneT P t) w := by
  unfold isAgg oneT
  rw [Sem.run_bind, run_under h, h]
  simp only [Result.andThen_ok]
  cases d <;> rfl
theorem sizeT_info {t : TypeId} (h : sizeT P t ≠ 0) : ∃ i, P.info? t = some i := by
  unfold sizeT at h
  cases e : P.info? t with
  | none => rw [e] at h; simp at h
  | some i => exact ⟨i, rfl⟩

theorem fad_ok {o : Oper} {s : TypeId} {x : Operand} {f : Nat} {fs : Array Field} {r : Field} {k : V → Bool} (h : un q x (fun a => fadV r.offset a k) = true) (ho : o.op = .fieldAddr s x f) (hs : P.underlying s = some (.struct fs)) (hf : fs[f]? = some r) (hq : sizeT P r.type ≠ 0) :
    PopS P q o k := by
  obtain ⟨dst, op', ty, pos, aft, grd⟩ := o
  simp only at ho; subst ho
  refine PopS.fun1 (f := fadV r.offset) (F := fun v => Instr.fieldAt s v f) h ?_ (fun ρ => rfl)
  intro φ x k h c hc w
  obtain ⟨id, off, lim, ver, rfl, hk⟩ := onP_true h
  obtain ⟨l, e, hl, rfl⟩ := hc.inv_p
  obtain ⟨i, hi⟩ := sizeT_info hq
  refine ⟨_, .pointer (some ⟨l.B, l.base + (off + r.offset), none⟩), ?_, .p e hl, hk⟩
  unfold Instr.fieldAt
  rw [Sem.run_bind, run_under hs]
  simp only [Result.andThen_ok, hf]
  rw [Sem.run_bind]
  simp only [Instr.sureAddr, Sem.run_pure, Result.andThen_ok]
  rw [Sem.run_bind]
  unfold fieldPlace
  rw [Sem.run_bind, run_size hi]
  simp only [Result.andThen_ok, Sem.run_ite, if_neg hq, Sem.run_pure]
  rw [add_addr, Nat.add_assoc]

theorem nilck_ok {o : Oper} {x : Operand} {k : V → Bool} (h : un q x (fun a => nilckV a k) = true) (ho : o.op = .nilCheck x) : PopS P q o k := by
  obtain ⟨dst, op', ty, pos, aft, grd⟩ := o
  simp only at ho; subst ho
  intro φ ρ hh w r R
  obtain ⟨g, hx, hm⟩ := un_true h
  have rv := r _ _ hx
  refine ⟨g, ρ x, ?_, rv, ?_⟩
  · show (match ρ x with | .pointer none | .nilIface | .nilFunc => _ | .func (.method name) first captured => _ | x => pure (.value x) : Sem Next).run P w = _
    generalize ρ x = c at rv ⊢
    cases rv <;> first | rfl | exact Bool.noConfusion (show false = true from hm)
  · generalize ρ x = c at rv
    cases rv <;> first | exact hm | exact Bool.noConfusion (show false = true from hm)

theorem lay_true {φ : Phi} : ∀ (l : V) (n i : Nat) (c : Arr) (k : Arr → Bool) (cs : List Value), lay l n i c k = true → RL φ l cs → i + n ≤ acap c →
    cs.length = n ∧ ∃ c', k c' = true ∧ acap c' = acap c ∧ (∀ j, j < acap c → (j < i ∨ i + n ≤ j) → aget j c' = aget j c) ∧ ∀ (j : Nat) v, cs[j]? = some v → RV φ (aget (i + j) c') v
  | .x .nil a b, n, i, c, k, cs, h, hr, hle => by
    cases hr
    cases n with
    | zero => exact ⟨rfl, c, h, rfl, fun _ _ _ => rfl, fun j v hj => by simp at hj⟩
    | succ n => exact Bool.noConfusion (show false = true from h)
  | .x .cons a b, n, i, c, k, cs, h, hr, hle => by
    cases hr with
    | cons hv hr =>
      rename_i v r
      cases n with
      | zero => exact Bool.noConfusion (show false = true from h)
      | succ n =>
        obtain ⟨h1, c', h2, h3, h4, h5⟩ := lay_true b n (i + 1) (aset i a c) k r h hr (by simp; omega)
        rw [acap_aset] at h3 h4
        refine ⟨by simp [h1], c', h2, h3, fun j hj hj2 => ?_, fun j u hu => ?_⟩
        · rw [h4 j hj (by omega), aget_aset _ _ _ _ hj (by omega), if_neg (by omega)]
        · cases j with
          | zero =>
            simp at hu; subst hu
            rw [Nat.add_zero, h4 i (by omega) (by omega), aget_aset _ _ _ _ (by omega) (by omega), if_pos rfl]; exact hv
          | succ j =>
            have := h5 j u (by simpa using hu)
            rw [show i + (j + 1) = i + 1 + j from by omega]; exact this
  | .w _, _, _, _, _, _, h, _, _ => Bool.noConfusion (show false = true from h)
  | .y _, _, _, _, _, _, h, _, _ => Bool.noConfusion (show false = true from h)
  | .t _, _, _, _, _, _, h, _, _ => Bool.noConfusion (show false = true from h)
  | .s _ _, _, _, _, _, _, h, _, _ => Bool.noConfusion (show false = true from h)
  | .p _ _ _ _, _, _, _, _, _, h, _, _ => Bool.noConfusion (show false = true from h)
  | .sl _ _ _ _ _, _, _, _, _, _, h, _, _ => Bool.noConfusion (show false = true from h)
  | .x (.int _ _) _ _, _, _, _, _, _, h, _, _ => Bool.noConfusion (show false = true from h)
  | .x .pnil _ _, _, _, _, _, _, h, _, _ => Bool.noConfusion (show false = true from h)
  | .x .slnil _ _, _, _, _, _, _, h, _, _ => Bool.noConfusion (show false = true from h)
  | .x .fnil _ _, _, _, _, _, _, h, _, _ => Bool.noConfusion (show false = true from h)
  | .x .inil _ _, _, _, _, _, _, h, _, _ => Bool.noConfusion (show false = true from h)
  | .x .mnil _ _, _, _, _, _, _, h, _, _ => Bool.noConfusion (show false = true from h)
  | .x .undef _ _, _, _, _, _, _, h, _, _ => Bool.noConfusion (show false = true from h)
  | .x .agg _ _, _, _, _, _, _, h, _, _ => Bool.noConfusion (show false = true from h)
  | .x .tup _ _, _, _, _, _, _, h, _, _ => Bool.noConfusion (show false = true from h)
  | .x (.iface _) _ _, _, _, _, _, _, h, _, _ => Bool.noConfusion (show false = true from h)
  | .x (.func _) _ _, _, _, _, _, _, h, _, _ => Bool.noConfusion (show false = true from h)
  | .x (.map _) _ _, _, _, _, _, _, h, _, _ => Bool.noConfusion (show false = true from h)
  | .x .osl _ _, _, _, _, _, _, h, _, _ => Bool.noConfusion (show false = true from h)
  | .x .nn _ _, _, _, _, _, _, h, _, _ => Bool.noConfusion (show false = true from h)
  | .x .any _ _, _, _, _, _, _, h, _, _ => Bool.noConfusion (show false = true from h)

theorem oneV_ok {φ : Phi} {v : V} {c : Value} (h : oneV v = true) (r : RV φ v c) : c.oneCell' = true ∧ c.cells = #[c] := by
  cases r <;> first | exact ⟨rfl, rfl⟩ | exact Bool.noConfusion (show false = true from h)

/-- a value's cells laid -/
theorem layV_true {φ : Phi} {one : Bool} {v : V} {n i : Nat} {c : Arr} {k : Arr → Bool} {u : Value} (h : layV one v n i c k = true) (r : RV φ v u) (hle : i + n ≤ acap c) (hn : 1 ≤ n ∨ one = false) :
    u.cells.size = n ∧ (∀ x, x ∈ u.cells.toList → x.oneCell' = true) ∧ ∃ c', k c' = true ∧ acap c' = acap c ∧ (∀ j, j < acap c → (j < i ∨ i + n ≤ j) → aget j c' = aget j c) ∧ ∀ (j : Nat) x, u.cells.toList[j]? = some x → RV φ (aget (i + j) c') x := by
  cases one with
  | true =>
    obtain ⟨h1, h2⟩ := both_true (show both (Nat.beq n 1) (both (oneV v) (k (aset i v c))) = true from h)
    obtain ⟨h3, h4⟩ := both_true h2
    obtain rfl := beq_true h1
    obtain ⟨o1, o2⟩ := oneV_ok h3 r
    rw [o2]
    refine ⟨rfl, by simpa using o1, _, h4, acap_aset _ _ _, fun j hj hj2 => ?_, fun j x hx => ?_⟩
    · rw [aget_aset _ _ _ _ hj (by omega), if_neg (by omega)]
    · cases j with
      | zero => simp at hx; subst hx; rw [Nat.add_zero, aget_aset _ _ _ _ (by omega) (by omega), if_pos rfl]; exact r
      | succ j => simp at hx
  | false =>
    obtain ⟨l, b, rfl, h2⟩ := onAgg_true (show onAgg v (fun l => lay l n i c k) = true from h)
    cases r with
    | agg hl ho =>
      rename_i cs
      obtain ⟨h3, c', h4, h5, h6, h7⟩ := lay_true l n i c k cs h2 hl hle
      exact ⟨by simpa [Value.cells] using h3, by simpa [Value.cells] using ho, c', h4, h5, h6, by simpa [Value.cells] using h7⟩

/-- what an operation that looks at memory comes to -/
theorem ld_ok {o : Oper} {t : TypeId} {x : Operand} {h : H} {k : V → Bool} (hm : un q x (fun a => if oneT P t = true then ld1 a h k else lda (sizeT P t) a h k) = true) (ho : o.op = .load t x) (ht : hasT P t = true) {φ : Phi} {ρ : Operand → Value} {w : World} (r : QR φ q ρ) (R : Rel φ h w) :
    ∃ v c, (execOp ρ o).run P w = .ok (.value c) w ∧ RV φ v c ∧ k v = true := by
  obtain ⟨dst, op', ty, pos, aft, grd⟩ := o
  simp only at ho; subst ho
  obtain ⟨d, hd⟩ := hasT_under ht
  obtain ⟨i, hi⟩ := under_info hd
  obtain ⟨g, hx, hm⟩ := un_true hm
  have hrun : ∀ (w : World) (L : Addr), ρ x = .pointer (some L) → ∀ c, (loadVar t L).run P w = .ok c w → (execOp ρ ⟨dst, .load t x, ty, pos, aft, grd⟩).run P w = .ok (.value c) w := fun w L e4 c hc => by
    refine run_value (Instr.loadAt t (ρ x)) _ _ _ ?_
    unfold Instr.loadAt
    rw [e4, Sem.run_bind]; exact hc
  have rc := r _ _ hx
  cases hone : oneT P t with
  | true =>
    rw [hone, if_pos rfl] at hm
    obtain ⟨id, off, lim, ver, e1, h2⟩ := onP_true hm
    obtain ⟨c, size, bver, frz, elem, ex, own, e2, h3⟩ := onBk_true h2
    obtain ⟨h4, h5⟩ := both_true h3
    obtain rfl := beq_true h4
    rw [e1] at rc
    obtain ⟨l, e3, hl, e4⟩ := rc.inv_p
    obtain ⟨h6, h7⟩ := both_true h5
    have h6 := ble_true h6
    obtain ⟨v, hv, rv, _⟩ := R.cell e3 e2 (i := off) (by omega)
    refine ⟨_, v, hrun w _ e4 v ?_, rv, h7⟩
    unfold loadVar
    rw [Sem.run_bind, run_isAgg hd, hone]
    show (load _).run P w = _
    rw [run_load, hv]
  | false =>
    rw [hone, if_neg (by simp)] at hm
    obtain ⟨id, off, lim, ver, e1, h2⟩ := onP_true hm
    obtain ⟨c, size, bver, frz, elem, ex, own, e2, h3⟩ := onBk_true h2
    obtain ⟨h4, h5⟩ := both_true h3
    obtain rfl := beq_true h4
    rw [e1] at rc
    obtain ⟨l, e3, hl, e4⟩ := rc.inv_p
    obtain ⟨h6, h7⟩ := both_true h5
    have h6 := ble_true h6
    simp only [Nat.add_eq] at h6
    obtain ⟨q, q1, q2, q3, q4⟩ := cells_rel (φ := φ) (w := w) (c := c) (B := l.B) (o := l.base) (sizeT P t) off (fun j hj => by
      rw [Nat.add_assoc]; exact R.cell e3 e2 (i := off + j) (by omega))
    refine ⟨_, .agg ⟨q⟩, hrun w _ e4 _ ?_, .agg q2 q3, h7⟩
    unfold loadVar
    rw [Sem.run_bind, run_isAgg hd, hone]
    show (do pure (.agg (← loadCells ⟨l.B, l.base + off, none⟩ (← sizeOf t))) : Sem Value).run P w = _
    rw [Sem.run_bind, run_size hi]
    simp only [Result.andThen_ok]
    rw [Sem.run_bind, ← q1, run_loadCells_list w ⟨l.B, l.base + off, none⟩ q (fun j v hj => by rw [add_addr]; exact q4 j v hj)]
    rfl

/-- how an operation that may turn memory ends -/
def FPost (k : KV) (φ : Phi) (h : H) (w : World) (c : Value) (w' : World) : Prop := ∃ v h' φ', k v h' = true ∧ RV φ' v c ∧ Rel φ' h' w' ∧ Ext φ h w φ' h' w'

theorem st_ok {o : Oper} {t : TypeId} {x y : Operand} {h : H} {k : KV} (hm : bi q x y (fun a b => st (oneT P t) (sizeT P t) a b h k) = true) (ho : o.op = .store t x y) (ht : hasT P t = true) {φ : Phi} {ρ : Operand → Value} {w : World} (r : QR φ q ρ) (R : Rel φ h w) :
    OpRun P (execOp ρ o) w (FPost k φ h w) := by
  obtain ⟨dst, op', ty, pos, aft, grd⟩ := o
  simp only at ho; subst ho
  obtain ⟨g, g', hx, hy, hm⟩ := bi_true hm
  obtain ⟨id, off, lim, ver, e1, h2⟩ := onP_true hm
  obtain ⟨c, size, bver, frz, elem, ex, own, e2, h3⟩ := onBk_true h2
  obtain ⟨hown, h4⟩ := both_true h3
  obtain ⟨h5, h6⟩ := both_true h4
  obtain ⟨h7, h8⟩ := both_true h6
  obtain ⟨h9, h10⟩ := both_true h8
  obtain rfl := beq_true h5
  have h7 := ble_true h7; have h9 := ble_true h9
  simp only [Nat.add_eq] at h7
  have rc := r _ _ hx
  rw [e1] at rc
  obtain ⟨l, e3, hl, e4⟩ := rc.inv_p
  obtain ⟨d, hd⟩ := hasT_under ht
  obtain ⟨i, hi⟩ := under_info hd
  have ry := r _ _ hy
  have hid := R.lt e3
  obtain ⟨l', cs, fr, e3', b1, b2, b3, b4, b5, b6, b7, b8, b9⟩ := R.bk e3 e2
  rw [e3] at e3'; cases e3'
  obtain ⟨s1, s2, c', s3, s4, s5, s6⟩ := layV_true h10 ry (by omega) (by
    cases hone : oneT P t with
    | false => exact .inr rfl
    | true =>
      left
      rw [hone] at h10
      have := (both_true (show both (Nat.beq (sizeT P t) 1) _ = true from h10)).1
      have := beq_true this; omega)
  have hlen : (ρ y).cells.toList.length = sizeT P t := by simpa using s1
  obtain ⟨w', cs', r1, r2, r3, r4, r5, r6, r7, r8, r9⟩ := storeCells_run (P := P) (ρ y).cells.toList 0 (l.base + off) w cs b2 s2 (by omega) (fun j hj => by
    have := b8 hown (off + j) (by omega) (by omega)
    rw [show l.base + off + 0 + j = l.base + (off + j) from by omega]; exact this)
  have hb : BlkOk φ w' id (.bk c' size ver frz elem ex own) := by
    refine ⟨l, cs', fr, e3, b1, r2, by rw [r3]; exact b3, by rw [r3]; exact b4, by rw [s4]; exact b5, fun j hj => ?_, b7, fun q u v z => b8 q u v (by omega), fun q => by rw [r3]; exact b9 q⟩
    rw [r4]
    by_cases hjj : off ≤ j ∧ j < off + sizeT P t
    · rw [if_pos (by omega)]
      have hx2 : (ρ y).cells.toList[l.base + j - (l.base + off + 0)]? = some ((ρ y).cells.toList[j - off]'(by omega)) := by
        rw [show l.base + j - (l.base + off + 0) = j - off from by omega]; exact List.getElem?_eq_getElem _
      rw [hx2]
      refine ⟨_, rfl, ?_, s2 _ (List.getElem_mem _)⟩
      have := s6 (j - off) _ (List.getElem?_eq_getElem (by omega))
      rw [show off + (j - off) = j from by omega] at this; exact this
    · rw [if_neg (by omega)]
      obtain ⟨v, v1, v2, v3⟩ := b6 j hj
      refine ⟨v, v1, ?_, v3⟩
      rw [s5 j (by omega) (by omega)]; exact v2
  have hOwn : Own φ h.tr l.B := ⟨id, l, hid, by rw [e2]; exact hown, by rw [e2]; exact e3, rfl⟩
  have R' := R.put (φ' := φ) (w' := w') (id := id) (nx := h.next) (b := .bk c' size ver frz elem ex own) (T := h.tr) (l := l) (R.dom _ _ _ e3).1 (Nat.le_refl _) R.next (fun _ _ _ => .inl rfl) φ.le_refl (fun _ _ _ q _ => q)
    (fun v m q => by rw [r5]; exact (R.dom _ _ _ q).2) (by omega) (fun B _ hB => r9 B hB) hb e3
    (fun j m hj hne hnb hjm => fun q => R.apart id j hid hj (Ne.symm hne) (by rw [e2]; exact hown) hnb l m (by rw [e2]; exact e3) hjm q.symm)
  have X := Ext.put (h := h) (φ := φ) (φ' := φ) (w := w) (w' := w') (id := id) (n0 := h.next) (nx := h.next) (b := .bk c' size ver frz elem ex own) (T := h.tr) (l := l) hid (fun _ _ _ => .inl rfl) φ.le_refl (fun _ _ _ q _ => q) (by omega) r6 r7 r8 R.next (Nat.le_refl _) (.inr (by rw [e2]; simp)) (fun B _ hB => r9 B hB) e3 (.inl hOwn)
  have hrun : (execOp ρ ⟨dst, .store t x y, ty, pos, aft, grd⟩).run P w = .ok .skip w' := by
    show (do Instr.storeAt t (ρ x) (ρ y); pure .skip : Sem Next).run P w = _
    rw [Sem.run_bind]
    unfold Instr.storeAt
    rw [e4, Sem.run_bind]
    show ((storeVar t ⟨l.B, l.base + off, none⟩ (ρ y)).run P w).andThen _ = _
    unfold storeVar
    rw [Sem.run_bind, run_size hi]
    simp only [Result.andThen_ok]
    rw [if_neg (by rw [s1]; simp)]
    rw [r1]; rfl
  exact .inr (.inl ⟨w', hrun, V.u, _, φ, s3, .undef, R', X⟩)

end Go.Bvm
