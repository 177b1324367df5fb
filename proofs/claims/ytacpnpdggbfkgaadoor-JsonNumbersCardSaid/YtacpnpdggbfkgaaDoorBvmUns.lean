/- The abstract machine: pointers seen as another type, bytes taken for a string. Conditions: none. -/
import Derived.Test.YtacpnpdggbfkgaaDoorBvmBuild
import Derived.Lib.Builder
import Derived.Lib.UnsafeStr
set_option linter.unusedVariables false
namespace Go.Bvm
variable {P : Program} {q : Operand → Option V}

theorem isPnil_true {v : V} (h : isPnil v = true) : ∃ a b, v = .x .pnil a b := by
  cases v with
  | x g a b => cases g <;> first | exact Bool.noConfusion (show false = true from h) | exact ⟨_, _, rfl⟩
  | _ => exact Bool.noConfusion (show false = true from h)
theorem RV.inv_pnil {φ : Phi} {a b : V} {c : Value} (r : RV φ (.x .pnil a b) c) : c = .pointer none := by cases r; rfl
theorem shape_of_block {w : World} {B : Nat} {cs : Array Value} {elem : TypeId} {fr : Nat × Nat} (h : w.heap[B]? = some (.cells cs elem fr)) : w.shape? B = some (elem, cs.size) := by
  unfold World.shape?; simp [h]

theorem run_conv {o : Oper} {s t : TypeId} {x : Operand} (ho : o.op = .convert s t x) {ρ : Operand → Value} {w : World} {c : Value} (h : (convert s t (ρ x)).run P w = .ok c w) : (execOp ρ o).run P w = .ok (.value c) w := by
  obtain ⟨dst, op', ty, pos, aft, grd⟩ := o
  simp only at ho; subst ho
  exact run_value (convert s t (ρ x)) _ _ _ h

theorem cvU_ok {o : Oper} {s t u : TypeId} {x : Operand} {h : H} {k : V → Bool} (hm : un q x (fun a => cvU a h k) = true) (ho : o.op = .convert s t x) (hs : P.underlying s = some (.pointer u)) (ht : P.underlying t = some .unsafePointer) (hz : ¬ sizeT P u = 0) {φ : Phi} {ρ : Operand → Value} {w : World} (r : QR φ q ρ) (R : Rel φ h w) :
    ∃ v c, (execOp ρ o).run P w = .ok (.value c) w ∧ RV φ v c ∧ k v = true := by
  obtain ⟨g, hx, hm⟩ := un_true hm
  have rc := r _ _ hx
  obtain ⟨j, hj⟩ := sizeT_info hz
  have hjs : j.size ≠ 0 := by have : sizeT P u = j.size := by unfold sizeT; rw [hj]
                              rw [← this]; exact hz
  unfold cvU at hm
  cases hn : isPnil g with
  | true =>
    rw [hn] at hm
    obtain ⟨a, b, rfl⟩ := isPnil_true hn
    have e := rc.inv_pnil
    refine ⟨_, _, run_conv ho ?_, rc, hm⟩
    rw [e]
    simp [convert, run_underlying hs, run_underlying ht, Conv.unsafePointer]
  | false =>
    rw [hn, bs_false] at hm
    obtain ⟨id, off, lim, ver, e1, h2⟩ := onP_true hm
    obtain ⟨c, size, bver, frz, elem, ex, own, e2, h3⟩ := onBk_true h2
    obtain ⟨h4, h5⟩ := both_true h3
    obtain ⟨h6, h7⟩ := both_true h5
    obtain rfl := beq_true h4
    have h6 := ble_true h6
    rw [e1] at rc h7
    obtain ⟨l, e3, hl, e4⟩ := rc.inv_p
    obtain ⟨l', cs, fr, e3', b1, b2, b3, b4, b5, b6, b7, b8, b9⟩ := R.bk e3 e2
    rw [e3] at e3'; cases e3'
    refine ⟨_, _, run_conv ho ?_, rc, h7⟩
    rw [e4]
    exact Lib.run_to_unsafe w ⟨l.B, l.base + off, none⟩ hs ht hj hjs (shape_of_block b2) (by dsimp only; omega)

theorem cvP_ok {o : Oper} {s t u : TypeId} {x : Operand} {h : H} {k : V → Bool} (hm : un q x (fun a => cvP u (sizeT P u) a h k) = true) (ho : o.op = .convert s t x) (hs : P.underlying s = some .unsafePointer) (ht : P.underlying t = some (.pointer u)) (hl : liesAt P P.depth u (sizeT P u / P.cellsOf u) 0 u 1 = true) (hz : ¬ sizeT P u = 0) {φ : Phi} {ρ : Operand → Value} {w : World} (r : QR φ q ρ) (R : Rel φ h w) :
    ∃ v c, (execOp ρ o).run P w = .ok (.value c) w ∧ RV φ v c ∧ k v = true := by
  obtain ⟨g, hx, hm⟩ := un_true hm
  have rc := r _ _ hx
  obtain ⟨j, hj⟩ := sizeT_info hz
  unfold cvP at hm
  cases hn : isPnil g with
  | true =>
    rw [hn] at hm
    obtain ⟨a, b, rfl⟩ := isPnil_true hn
    have e := rc.inv_pnil
    refine ⟨_, _, run_conv ho ?_, rc, hm⟩
    rw [e]
    simp [convert, run_underlying hs, run_underlying ht, Conv.unsafePointer]
  | false =>
    rw [hn, bs_false] at hm
    obtain ⟨id, off, lim, ver, e1, h2⟩ := onP_true hm
    obtain ⟨c, size, bver, frz, elem, ex, own, e2, h3⟩ := onBk_true h2
    obtain ⟨h4, h5⟩ := both_true h3
    obtain ⟨h6, h7⟩ := both_true h5
    obtain ⟨h8, h9⟩ := both_true h7
    obtain ⟨h10, h11⟩ := both_true h9
    obtain ⟨h12, h13⟩ := both_true h11
    obtain rfl := beq_true h4
    obtain rfl := beq_true h6
    obtain rfl := beq_true h8
    obtain rfl := beq_true h12
    rw [e1] at rc h13
    obtain ⟨l, e3, hlim, e4⟩ := rc.inv_p
    obtain ⟨l', cs, fr, e3', b1, b2, b3, b4, b5, b6, b7, b8, b9⟩ := R.bk e3 e2
    rw [e3] at e3'; cases e3'
    obtain ⟨b10, b11⟩ := b9 h10
    refine ⟨_, _, run_conv ho ?_, rc, h13⟩
    rw [e4]
    refine Lib.run_from_unsafe w ⟨l.B, l.base + 0, none⟩ hs ht hj (shape_of_block b2) ?_
    dsimp only
    rw [b10, ← b11]
    exact hl

theorem eqPt_fun {f : Bool → Bool} {op : BinOp} {t e : TypeId} {j : TypeInfo} (hop : op = .eql ∧ f = idB ∨ op = .neq ∧ f = nots) (ht : P.underlying t = some (.pointer e)) (he : P.info? e = some j) (hN : Fun2 P (eqN nilP f) (Go.binOp op t)) : Fun2 P (eqPt f) (Go.binOp op t) := by
  intro φ x y k hm c d rx ry w
  unfold eqPt at hm
  cases hb : both (isP x) (isP y) with
  | false => rw [hb, bs_false] at hm; exact hN φ x y k hm c d rx ry w
  | true =>
    rw [hb, bs_true] at hm
    obtain ⟨i, o, l, v, ex, hm1⟩ := onP_true hm
    obtain ⟨i', o', l', v', ey, hm2⟩ := onP_true hm1
    obtain ⟨h1, hm3⟩ := both_true hm2
    obtain ⟨h2, hm4⟩ := both_true hm3
    obtain ⟨h3, hm5⟩ := both_true hm4
    have h1 := beq_true h1; have h2 := beq_true h2; have h3 := beq_true h3
    rw [ex] at rx; rw [ey, ← h1, ← h2, ← h3] at ry
    obtain ⟨m, m1, _, rfl⟩ := rx.inv_p
    obtain ⟨m', m1', _, rfl⟩ := ry.inv_p
    rw [m1] at m1'; cases m1'
    have heq : ∀ d : Nat, (Op.equalIn (d + 1) t (.pointer (some ⟨m.B, m.base + o, none⟩)) (.pointer (some ⟨m.B, m.base + o, none⟩))).run P w = .ok true w := fun d => by
      simp [Op.equalIn, run_underlying ht, sizeOf, typeInfo, he, run_sameAddr_same]
    rcases hop with ⟨rfl, rfl⟩ | ⟨rfl, rfl⟩
    · refine ⟨_, .bool true, ?_, .t, hm5⟩
      simp only [Go.binOp]
      simp [Op.equal, Op.maxDepth, heq 9999]
    · refine ⟨_, .bool false, ?_, .t, hm5⟩
      simp only [Go.binOp]
      simp [Op.equal, Op.maxDepth, heq 9999]

theorem sdata_fun {ts : Array TypeId} {ty : TypeId} : Fun1 P sdata (fun v => Builtin.unsafeSliceData_ ts ty #[v]) := by
  intro φ x k hm c r w
  unfold sdata at hm
  rcases onSl_true hm with ⟨q1, q2, e, hk⟩ | ⟨id, off, len, ver, es, e, hk⟩
  · rw [e] at r
    obtain rfl := r.inv_slnil
    exact ⟨_, _, Lib.run_unsafeSliceData_nil w ts ty 0 0, .pnil, hk⟩
  · rw [e] at r
    obtain ⟨h1, h2⟩ := both_true hk
    have h1 := ble_true h1
    obtain ⟨l, o, cap, a1, a2, a3, a4, a5, rfl⟩ := r.inv_sl
    have hcap : cap ≠ 0 := by omega
    refine ⟨_, _, Lib.run_unsafeSliceData_row w ts ty _ len cap hcap, ?_, h2⟩
    rw [a4 hcap]
    exact .p a1 a2

/-- in a row of bytes, n of them lie side by side from a place on -/
theorem liesAt_bytes_at {e : TypeId} (hc : P.cellsOf e = 1) (count off n : Nat) (hn : off + n ≤ count) : liesAt P P.depth e count off e n = true := by
  have hd : P.depth = (2 * (P.types.size + Made.depth) + 1) + 1 := rfl
  rw [hd]
  simp only [liesAt, Bool.or_eq_true]
  left
  rw [hd]
  simp [rowAt, hc, hn, sameLayout, Nat.mod_one]

theorem run_unsafeString_at (w : World) (pt it ty e : TypeId) (hp : P.underlying pt = some (.pointer e)) (hc : P.cellsOf e = 1) (g o cells : Nat) (hsh : w.shape? g = some (e, cells)) (l : List UInt8) (h0 : l ≠ []) (hn : o + l.length ≤ cells) (h63 : l.length ≤ 9223372036854775807)
    (hcell : ∀ (j : Nat) x, l[j]? = some x → w.cell? ((⟨g, o, none⟩ : Addr).add j) = some (.int .u8 x.toNat)) :
    (Builtin.unsafeString_ #[pt, it] ty #[.pointer (some ⟨g, o, none⟩), .int .i64 l.length]).run P w = .ok (.string ⟨l.toArray⟩) (w.freeze ⟨g, o, none⟩ l.length) := by
  have hl : l.length ≠ 0 := by simpa using h0
  have hlb := Lib.run_loadBytes (P := P) w l ⟨g, o, none⟩ .empty hcell
  have hlies := liesAt_bytes_at (P := P) hc (cells / P.cellsOf e) o l.length (by rw [hc]; simpa using hn)
  have h63' : ¬ (9223372036854775807 : Int) < (l.length : Int) := by omega
  have hdef : Builtin.unsafeString_ #[pt, it] ty #[.pointer (some ⟨g, o, none⟩), .int .i64 l.length] =
      (do
        let n ← asInt (.int .i64 l.length)
        if n < 0 then runtimePanic (.error "unsafe.String: len out of range")
        if n > IntKind.i64.max then unsupported (.unsafePointer "String: a length above the largest int")
        if n = 0 then pure (.string .empty)
        else if ← variablesAt ⟨g, o, none⟩ (← elemOf pt) n.toNat then do
          let s ← loadBytes ⟨g, o, none⟩ .empty n.toNat
          freeze ⟨g, o, none⟩ n.toNat
          pure (.string s)
        else unsupported (.unsafePointer "String: not so many bytes at ptr")) := rfl
  rw [hdef]
  have hmax : IntKind.i64.max = 9223372036854775807 := rfl
  have hneg : ¬ (l.length : Int) < 0 := by omega
  simp [asInt, asIntOf, hmax, h63', hneg, hl, variablesAt, hsh, elemOf, run_underlying hp, hlies, hlb]

theorem freeze_heap (w : World) (B o n : Nat) {cs : Array Value} {elem : TypeId} {fr : Nat × Nat} (h : w.heap[B]? = some (.cells cs elem fr)) : ∃ fr', (w.freeze ⟨B, o, none⟩ n).heap[B]? = some (.cells cs elem fr') := by
  unfold World.freeze
  split
  · exact ⟨fr, h⟩
  · obtain ⟨lo, hi⟩ := fr
    simp only [Array.getElem?_modify]
    simp [h]
theorem freeze_other (w : World) (B o n : Nat) {k : Nat} (hk : k ≠ B) : (w.freeze ⟨B, o, none⟩ n).heap[k]? = w.heap[k]? := by
  unfold World.freeze
  split
  · rfl
  · simp only [Array.getElem?_modify]
    rw [if_neg (fun e => hk e.symm)]
theorem freeze_rest (w : World) (B o n : Nat) : (w.freeze ⟨B, o, none⟩ n).heap.size = w.heap.size ∧ (w.freeze ⟨B, o, none⟩ n).os = w.os ∧ (w.freeze ⟨B, o, none⟩ n).tape = w.tape ∧ (w.freeze ⟨B, o, none⟩ n).output = w.output := by
  unfold World.freeze
  split
  · exact ⟨rfl, rfl, rfl, rfl⟩
  · exact ⟨by simp, rfl, rfl, rfl⟩

theorem usS_ok {o : Oper} {ts : Array TypeId} {t u e : TypeId} {x y : Operand} {xs : Array Operand} {h : H} {k : KV} (hm : bi q x y (fun a b => usS e a b h k) = true) (ho : o.op = .call ⟨.builtin .unsafeString, xs, ts⟩) (hxs : xs.toList = [x, y]) (hts : ts.toList = [t, u])
    (ht : P.underlying t = some (.pointer e)) (he : P.cellsOf e = 1) {φ : Phi} {ρ : Operand → Value} {w : World} (r : QR φ q ρ) (R : Rel φ h w) : OpRun P (execOp ρ o) w (FPost k φ h w) := by
  obtain ⟨dst, op', ty, pos, aft, grd⟩ := o
  simp only at ho; subst ho
  obtain rfl := args_two hxs
  obtain rfl : ts = #[t, u] := by apply Array.ext'; rw [hts]
  obtain ⟨g, g', hx, hy, hm⟩ := bi_true hm
  have rx := r _ _ hx
  have ry := r _ _ hy
  have hex : ∀ c w', (Builtin.unsafeString_ #[t, u] ty #[ρ x, ρ y]).run P w = .ok c w' → (execOp ρ ⟨dst, .call ⟨.builtin .unsafeString, #[x, y], #[t, u]⟩, ty, pos, aft, grd⟩).run P w = .ok (.value c) w' := fun c w' hc =>
    by simp [execOp, resolve, invoke, builtin, hc]
  unfold usS at hm
  obtain ⟨m, e1, hm⟩ := onW_true hm
  rw [e1] at ry
  obtain ⟨hm64, ey⟩ := ry.inv_w
  obtain ⟨h1, hm⟩ := both_true hm
  have h1 : bias ≤ m := ble_true h1
  have hbias : bias = 9223372036854775808 := rfl
  cases hz : Nat.beq m bias with
  | true =>
    rw [hz, bs_true] at hm
    have hz := beq_true hz
    have ey0 : ρ y = .int .i64 0 := by rw [ey, hz]; rfl
    have fin : k (.s 0 0) h = true → (∃ p, ρ x = .pointer p) → OpRun P (execOp ρ ⟨dst, .call ⟨.builtin .unsafeString, #[x, y], #[t, u]⟩, ty, pos, aft, grd⟩) w (FPost k φ h w) := fun hk ⟨p, hp⟩ =>
      .inl ⟨_, w, hex _ _ (by rw [hp, ey0]; exact Lib.run_unsafeString_none w t u ty p), _, h, φ, hk, .s rfl rfl, R, .refl _ _ _⟩
    cases hp : isPnil g with
    | true =>
      rw [hp, bs_true] at hm
      obtain ⟨a, b, hg⟩ := isPnil_true hp
      rw [hg] at rx
      exact fin hm ⟨_, rx.inv_pnil⟩
    | false =>
      rw [hp, bs_false] at hm
      obtain ⟨id, off, lim, ver, e2, h2⟩ := onP_true hm
      rw [e2] at rx
      obtain ⟨l, _, _, e4⟩ := rx.inv_p
      exact fin h2 ⟨_, e4⟩
  | false =>
    rw [hz, bs_false] at hm
    have hz : m ≠ bias := fun e => by rw [e] at hz; simp at hz
    obtain ⟨id, off, lim, ver, e2, h2⟩ := onP_true hm
    obtain ⟨c, size, bver, frz, elem, ex, own, e3, h3⟩ := onBk_true h2
    obtain ⟨hown, h4⟩ := both_true h3
    obtain ⟨h5, h6⟩ := both_true h4
    obtain ⟨h7, h8⟩ := both_true h6
    obtain ⟨h9, h10⟩ := both_true h8
    obtain rfl := beq_true h5
    obtain ⟨h9e, h9⟩ := both_true h9
    have h9e := beq_true h9e
    have h7 := ble_true h7; have h9 := ble_true h9
    rw [e2] at rx
    obtain ⟨l, f1, hl, e4⟩ := rx.inv_p
    obtain ⟨l', cs, fr, f1', b1, b2, b3, b4, b5, b6, b7, b8, b9⟩ := R.bk f1 e3
    rw [f1] at f1'; cases f1'
    obtain ⟨vs, q1, q2, q3, q4⟩ := cellsAt R f1 e3 off (m - bias) (by omega)
    rw [← q1] at h10
    obtain ⟨bs, a1, a2⟩ := packA_true vs off _ h10 q4
    have hlb : bs.length = m - bias := by rw [← q1, a1, List.length_map]
    have hid := R.lt f1
    have hrun := run_unsafeString_at w t u ty e ht he l.B (l.base + off) cs.size (by rw [← h9e]; exact shape_of_block b2) bs (by intro q; rw [q] at hlb; simp at hlb; omega) (by omega) (by omega) (fun j v hj => by
      rw [add_addr]
      refine q3 j _ ?_
      rw [a1, List.getElem?_map, hj]; rfl)
    obtain ⟨fr', g1⟩ := freeze_heap w l.B (l.base + off) bs.length b2
    obtain ⟨g2, g3, g4, g5⟩ := freeze_rest w l.B (l.base + off) bs.length
    have g6 : ∀ B, B ≠ l.B → (w.freeze ⟨l.B, l.base + off, none⟩ bs.length).heap[B]? = w.heap[B]? := fun B hB => freeze_other w l.B (l.base + off) bs.length hB
    have hb : BlkOk φ (w.freeze ⟨l.B, l.base + off, none⟩ bs.length) id (.bk c size ver frz elem ex false) :=
      ⟨l, cs, fr', f1, b1, g1, b3, b4, b5, b6, b7, fun q => by simp at q, b9⟩
    have hOwn : Own φ h.tr l.B := ⟨id, l, hid, by rw [e3]; exact hown, by rw [e3]; exact f1, rfl⟩
    have R' := R.put (φ' := φ) (w' := w.freeze ⟨l.B, l.base + off, none⟩ bs.length) (id := id) (nx := h.next) (b := .bk c size ver frz elem ex false) (T := h.tr) (l := l) (R.dom _ _ _ f1).1 (Nat.le_refl _) R.next (fun _ _ _ => .inl rfl) φ.le_refl (fun _ _ _ q _ => q)
      (fun v m q => by rw [g2]; exact (R.dom _ _ _ q).2) (by omega) (fun B _ hB => g6 B hB) hb f1
      (fun j m hj hne hnb hjm => fun q => R.apart id j hid hj (Ne.symm hne) (by rw [e3]; exact hown) hnb l m (by rw [e3]; exact f1) hjm q.symm)
    have X := Ext.put (h := h) (φ := φ) (φ' := φ) (w := w) (w' := w.freeze ⟨l.B, l.base + off, none⟩ bs.length) (id := id) (n0 := h.next) (nx := h.next) (b := .bk c size ver frz elem ex false) (T := h.tr) (l := l) hid (fun _ _ _ => .inl rfl) φ.le_refl (fun _ _ _ q _ => q) (by omega) g3 g4 g5 R.next (Nat.le_refl _) (.inr (by rw [e3]; simp)) (fun B _ hB => g6 B hB) f1 (.inl hOwn)
    refine .inl ⟨.string ⟨bs.toArray⟩, _, hex _ _ ?_, _, _, φ, a2, .s ?_ ?_, R', X⟩
    · rw [e4, ey, show ((m : Int) - 9223372036854775808) = (bs.length : Int) from by rw [hlb]; omega]
      exact hrun
    · rw [size_data]; simpa using (hlb.trans q1.symm)
    · simp

end Go.Bvm
