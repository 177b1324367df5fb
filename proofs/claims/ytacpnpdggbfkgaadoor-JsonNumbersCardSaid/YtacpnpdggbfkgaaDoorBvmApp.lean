/- The abstract machine: append, and conversions of strings and bytes. Conditions: none. -/
import Derived.Test.YtacpnpdggbfkgaaDoorBvmNew
set_option linter.unusedVariables false
namespace Go.Bvm
variable {P : Program} {G : Nat → Bool} {N : Fr} {q : Operand → Option V}

/-- n cells laid from place j on read as a list -/
def Laid (φ : Phi) (src : Nat → Arr → Arr) (cs : List Value) : Prop := ∀ j c, j + cs.length ≤ acap c → acap (src j c) = acap c ∧ (∀ i, i < acap c → (i < j ∨ j + cs.length ≤ i) → aget i (src j c) = aget i c) ∧ ∀ (i : Nat) x, cs[i]? = some x → RV φ (aget (j + i) (src j c)) x

theorem acopy_laid {φ : Phi} (c : Arr) : ∀ (cs : List Value) (i : Nat), (∀ (j : Nat) x, cs[j]? = some x → RV φ (aget (i + j) c) x) → Laid φ (fun j c' => acopy c cs.length i j c') cs
  | [], i, _ => fun j c' _ => ⟨rfl, fun _ _ _ => rfl, fun i x h => by simp at h⟩
  | v :: r, i, h => fun j c' hle => by
    have ih := acopy_laid c r (i + 1) (fun q x hq => by
      have := h (q + 1) x (by simpa using hq)
      rw [show i + 1 + q = i + (q + 1) from by omega]; exact this) (j + 1) (aset j (aget i c) c') (by simp at hle ⊢; omega)
    obtain ⟨h1, h2, h3⟩ := ih
    rw [acap_aset] at h1 h2
    simp only [List.length_cons] at hle
    refine ⟨h1, fun q hq hq2 => ?_, fun q x hx => ?_⟩
    · have := h2 q hq (by simp at hq2; omega)
      refine Eq.trans this ?_
      rw [aget_aset _ _ _ _ hq (by omega), if_neg (by simp at hq2; omega)]
    · cases q with
      | zero =>
        simp at hx; subst hx
        have := h2 j (by omega) (by omega)
        rw [Nat.add_zero]
        show RV φ (aget j (acopy c r.length (i + 1) (j + 1) (aset j (aget i c) c'))) v
        rw [this, aget_aset _ _ _ _ (by omega) (by omega), if_pos rfl]
        have := h 0 v (by simp)
        simpa using this
      | succ q =>
        have := h3 q x (by simpa using hx)
        rw [show j + (q + 1) = j + 1 + q from by omega]; exact this

theorem abytes_laid {φ : Phi} : ∀ (bs : List UInt8), Laid φ (fun j c => abytes bs.length (pack bs) j c) (bs.map fun b => .int .u8 (b.toNat : Int))
  | [] => fun j c' _ => ⟨rfl, fun _ _ _ => rfl, fun i x h => by simp at h⟩
  | b :: r => fun j c' hle => by
    have hb : b.toNat < 256 := b.toNat_lt
    have e1 : (b.toNat + 256 * pack r) % 256 = b.toNat := by omega
    have e2 : (b.toNat + 256 * pack r) / 256 = pack r := by omega
    have ih := abytes_laid (φ := φ) r (j + 1) (aset j (.y b.toNat) c') (by simp at hle ⊢; omega)
    obtain ⟨h1, h2, h3⟩ := ih
    have hstep : abytes (b :: r).length (pack (b :: r)) j c' = abytes r.length (pack r) (j + 1) (aset j (.y b.toNat) c') := by
      show abytes r.length ((b.toNat + 256 * pack r) / 256) (j + 1) (aset j (.y ((b.toNat + 256 * pack r) % 256)) c') = _
      rw [e1, e2]
    simp only [hstep]
    rw [acap_aset] at h1 h2
    simp only [List.map_cons, List.length_cons, List.length_map] at hle h2 ⊢
    refine ⟨h1, fun q hq hq2 => ?_, fun q x hx => ?_⟩
    · have := h2 q hq (by omega)
      refine Eq.trans this ?_
      rw [aget_aset _ _ _ _ hq (by omega), if_neg (by omega)]
    · cases q with
      | zero =>
        simp at hx; subst hx
        have := h2 j (by omega) (by omega)
        rw [Nat.add_zero]
        show RV φ (aget j (abytes r.length (pack r) (j + 1) (aset j (.y b.toNat) c'))) _
        rw [this, aget_aset _ _ _ _ (by omega) (by omega), if_pos rfl]
        exact .y hb
      | succ q =>
        have := h3 q x (by simpa using hx)
        rw [show j + (q + 1) = j + 1 + q from by omega]; exact this

theorem cellsAt {φ : Phi} {h : H} {w : World} (R : Rel φ h w) {id ver : Nat} {l : Loc} (e : φ id ver = some l) {c : Arr} {size frz elem : Nat} {ex own : Bool} (hb : hget id h.tr = .bk c size ver frz elem ex own) (off n : Nat) (hle : off + n ≤ l.sz) :
    ∃ q : List Value, q.length = n ∧ (∀ v, v ∈ q → v.oneCell' = true) ∧ (∀ (j : Nat) v, q[j]? = some v → w.cell? ⟨l.B, l.base + off + j, none⟩ = some v) ∧ (∀ (j : Nat) v, q[j]? = some v → RV φ (aget (off + j) c) v) := by
  have hc : ∀ j, j < n → ∃ v, w.cell? ⟨l.B, l.base + off + j, none⟩ = some v ∧ RV φ (aget (off + j) c) v ∧ v.oneCell' = true := fun j hj => by rw [Nat.add_assoc]; exact R.cell e hb (by omega)
  obtain ⟨q, q1, q2, q3, q4⟩ := cells_rel (φ := φ) (w := w) (c := c) (B := l.B) (o := l.base) n off hc
  refine ⟨q, q1, q3, q4, fun j v hj => ?_⟩
  have hjn : j < n := by rw [← q1]; exact (List.getElem?_eq_some_iff.1 hj).1
  obtain ⟨u, u1, u2, _⟩ := hc j hjn
  rw [q4 j v hj] at u1; cases u1; exact u2

theorem onSrc_true {φ : Phi} {h : H} {w : World} (R : Rel φ h w) {esz : Nat} {v : V} {u : Value} {k : (n : Nat) → (Nat → Arr → Arr) → Bool} (hm : onSrc esz v h k = true) (r : RV φ v u) :
    ∃ n src cs, k n src = true ∧ (∀ w', (Builtin.lenOf u).run P w' = .ok n w') ∧ cs.length = n * esz ∧ (∀ w', (∀ a, w'.cell? a = w.cell? a) → (Builtin.firstCells esz n u).run P w' = .ok cs.toArray w') ∧ (∀ x, x ∈ cs → x.oneCell' = true) ∧ Laid φ src cs := by
  cases v <;> try exact Bool.noConfusion (show false = true from hm)
  · obtain ⟨h1, h2⟩ := both_true hm
    obtain rfl := beq_true h1
    obtain ⟨s, rfl, rfl, rfl⟩ := r.inv_s
    refine ⟨s.size, _, s.data.toList.map fun b => .int .u8 (b.toNat : Int), h2, fun w' => rfl, by rw [List.length_map, ← size_data, Nat.mul_one], fun w' _ => ?_, by simp [Value.oneCell'], ?_⟩
    · have e : s.extract 0 s.size = s := by
        apply bytes_ext; simp
      show Result.ok _ w' = _
      rw [e]
      congr 1
      apply Array.ext'
      simp
    · rw [size_data]; exact abytes_laid _
  · rename_i id off len ver es
    obtain ⟨h1, h2⟩ := both_true hm
    obtain rfl := beq_true h1
    obtain ⟨c, size, bver, frz, elem, ex, own, e2, h3⟩ := onBk_true h2
    obtain ⟨h4, h5⟩ := both_true h3
    obtain rfl := beq_true h4
    obtain ⟨l, o, cap, f1, f2, f3, f4, f5, rfl⟩ := r.inv_sl
    obtain ⟨q, q1, q2, q3, q4⟩ := cellsAt R f1 e2 off (len * es) f2
    refine ⟨len, _, q, h5, fun w' => rfl, q1, fun w' hw => ?_, q2, ?_⟩
    · by_cases hz : len * es = 0
      · obtain rfl : q = [] := List.eq_nil_of_length_eq_zero (by omega)
        show (loadCells ⟨l.B, o, none⟩ (len * es)).run P w' = _
        rw [hz]; rfl
      · have ho : o = l.base + off := f4 (by intro k; rw [k] at f3; simp at f3; rw [f3] at hz; simp at hz)
        refine run_firstCells_some w' es len ⟨l.B, o, none⟩ len cap q q1 fun j v hj => ?_
        rw [add_addr, ho, hw]; exact q3 j v hj
    · have := acopy_laid (φ := φ) c q off q4
      rw [q1] at this; exact this
  · rename_i g a b
    cases g <;> try exact Bool.noConfusion (show false = true from hm)
    obtain rfl := r.inv_slnil
    exact ⟨0, _, [], hm, fun w' => rfl, by simp, fun w' _ => rfl, by simp, fun j c _ => ⟨rfl, fun _ _ _ => rfl, fun i x hx => by simp at hx⟩⟩

/-- append in the model: there is room, or there is none -/
theorem run_append_room {t u ty el : TypeId} {i : TypeInfo} {du : TypeDesc} {ts : Array TypeId} (hts : ts[0]? = some t) (htu : ts[1]? = some u) (ht : P.underlying t = some (.slice el)) (hu : P.underlying u = some du) (hdu : du = .string ∨ ∃ e, du = .slice e) (hi : P.info? el = some i)
    (w w' : World) (B : Option Addr) (len cap : Nat) (x : Value) (n : Nat) (cs : List Value) (hlen : ∀ w', (Builtin.lenOf x).run P w' = .ok n w') (hcs : (Builtin.firstCells i.size n x).run P w = .ok cs.toArray w) (hroom : len + n ≤ cap)
    (hst : match B with | some a => (storeCells (a.add (len * i.size)) cs).run P w = .ok () w' | none => w' = w) :
    (Builtin.append_ ts ty #[.slice B len cap, x]).run P w = .ok (.slice B (len + n) cap) w' := by
  unfold Builtin.append_
  simp only [hts, htu]
  cases B with
  | none => subst hst; rcases hdu with rfl | ⟨e, rfl⟩ <;> simp [run_under ht, sizeOf, typeInfo, hi, hlen, hroom, hcs, run_under hu]
  | some a => rcases hdu with rfl | ⟨e, rfl⟩ <;> simp [run_under ht, sizeOf, typeInfo, hi, hlen, hroom, hcs, hst, run_under hu]

theorem run_append_none {t u ty el : TypeId} {i : TypeInfo} {z : Value} {du : TypeDesc} {ts : Array TypeId} (hts : ts[0]? = some t) (htu : ts[1]? = some u) (ht : P.underlying t = some (.slice el)) (hu : P.underlying u = some du) (hdu : du = .string ∨ ∃ e, du = .slice e) (hi : P.info? el = some i) (hz : i.zero = some z)
    (w : World) (B : Option Addr) (len cap : Nat) (x : Value) (n : Nat) (cs olds : List Value) (hlen : ∀ w', (Builtin.lenOf x).run P w' = .ok n w') (hcs : (Builtin.firstCells i.size n x).run P w.drew = .ok cs.toArray w.drew) (holds : (Builtin.firstCells i.size len (.slice B len cap)).run P w.drew = .ok olds.toArray w.drew) (hroom : cap < len + n)
    (hfit : (len + n) * i.bytes ≤ 140737488355328) (hlt : len + n ≤ 9223372036854775807) :
    ∃ newCap, len + n ≤ newCap ∧ (Builtin.append_ ts ty #[.slice B len cap, x]).run P w = .ok (.slice (some ⟨w.heap.size, 0, none⟩) (len + n) newCap) (w.drew.alloc (.cells (olds.toArray ++ cs.toArray ++ Builtin.zeroCells z.cells (newCap - (len + n))) el)) := by
  have hn : ¬ (len + n ≤ cap) := by omega
  have h63' : ¬ (9223372036854775807 < ((len : Int) + (n : Int))) := by omega
  have h48' : ¬ (281474976710656 < Builtin.nextslicecap (len + n) cap * i.bytes) := by
    have := growslice_fits hroom hfit; omega
  refine ⟨grownCap w (len + n) cap el, by unfold grownCap; exact Nat.le_add_right _ _, ?_⟩
  rcases hdu with rfl | ⟨e, rfl⟩ <;> (unfold Builtin.append_; simp [hts, htu, run_under ht, sizeOf, typeInfo, zeroValue, hi, hz, hlen, hn, h63', h48', Question.forced, hcs, holds, newRow, grownCap, run_under hu]; congr 2; apply Array.ext'; simp [List.append_assoc])

end Go.Bvm
namespace Go.Bvm
variable {P : Program} {G : Nat → Bool} {N : Fr} {q : Operand → Option V}

theorem args_two {xs : Array Operand} {x y : Operand} (h : xs.toList = [x, y]) : xs = #[x, y] := by
  apply Array.ext'; rw [h]
theorem args_one {xs : Array Operand} {x : Operand} (h : xs.toList = [x]) : xs = #[x] := by
  apply Array.ext'; rw [h]

theorem app_ok {o : Oper} {ts : Array TypeId} {t u el : TypeId} {du : TypeDesc} {i : TypeInfo} {z : Value} {x y : Operand} {xs : Array Operand} {h : H} {k : KV} (hm : bi q x y (fun a b => app i.size el a b h k) = true) (ho : o.op = .call ⟨.builtin .append, xs, ts⟩) (hxs : xs.toList = [x, y])
    (hts : ts[0]? = some t) (htu : ts[1]? = some u) (ht : P.underlying t = some (.slice el)) (hu : P.underlying u = some du) (hdu : du = .string ∨ ∃ e, du = .slice e) (hi : P.info? el = some i) (hz : i.zero = some z) (hzs : z.cells.size = i.size) (hby : i.bytes ≤ 4096) {φ : Phi} {ρ : Operand → Value} {w : World} (r : QR φ q ρ) (R : Rel φ h w) :
    OpRun P (execOp ρ o) w (FPost k φ h w) := by
  obtain ⟨dst, op', ty, pos, aft, grd⟩ := o
  simp only at ho; subst ho
  obtain rfl := args_two hxs
  obtain ⟨g, g', hx, hy, hm⟩ := bi_true hm
  suffices H : ∃ v c h' φ' w', (execOp ρ ⟨dst, .call ⟨.builtin .append, #[x, y], ts⟩, ty, pos, aft, grd⟩).run P w = .ok (.value c) w' ∧ RV φ' v c ∧ Rel φ' h' w' ∧ Ext φ h w φ' h' w' ∧ k v h' = true by
    obtain ⟨v, c, h', φ', w', e1, e2, e3, e4, e5⟩ := H
    exact .inl ⟨c, w', e1, v, h', φ', e5, e2, e3, e4⟩
  obtain ⟨h1, h2⟩ := both_true hm
  have hesz := ble_true h1
  have rx := r _ _ hx
  have ry := r _ _ hy
  obtain ⟨n, src, cs, h3, hlen, hcl, hfc, hone, hlaid⟩ := onSrc_true R h2 ry
  have hex : ∀ c w', (Builtin.append_ ts ty #[ρ x, ρ y]).run P w = .ok c w' → (execOp ρ ⟨dst, .call ⟨.builtin .append, #[x, y], ts⟩, ty, pos, aft, grd⟩).run P w = .ok (.value c) w' := fun c w' hc =>
    by simp [execOp, resolve, invoke, builtin, hc]
  by_cases hn0 : n = 0
  · subst hn0
    have hcs0 : cs = [] := List.eq_nil_of_length_eq_zero (by omega)
    subst hcs0
    have h4 : onSl g (k g h) (fun _ _ _ _ _ => k g h) = true := h3
    rcases onSl_true h4 with ⟨q1, q2, e1, h5⟩ | ⟨id, off, len, ver, es, e1, h5⟩
    · rw [e1] at rx
      have e2 := rx.inv_slnil
      refine ⟨_, .slice none 0 0, h, φ, w, hex _ _ ?_, ?_, R, .refl _ _ _, h5⟩
      · rw [e2]; exact run_append_room hts htu ht hu hdu hi w w none 0 0 _ 0 [] hlen (hfc w fun _ => rfl) (by omega) rfl
      · rw [e1]; exact .slnil
    · rw [e1] at rx
      obtain ⟨L, oo, cap, f1, f2, f3, f4, f5, e2⟩ := rx.inv_sl
      refine ⟨_, .slice (some ⟨L.B, oo, none⟩) len cap, h, φ, w, hex _ _ ?_, ?_, R, .refl _ _ _, h5⟩
      · rw [e2]; exact run_append_room hts htu ht hu hdu hi w w _ len cap _ 0 [] hlen (hfc w fun _ => rfl) (by omega) rfl
      · rw [e1]; exact .sl f1 f2 f3 f4 f5
  · have hb0 : Nat.beq n 0 = false := by rw [← Bool.not_eq_true]; intro q; exact hn0 (Nat.eq_of_beq_eq_true q)
    rw [hb0, bs_false] at h3
    have hn1 : 1 ≤ n := by omega
    have hnc : n ≤ cs.length := by rw [hcl]; exact Nat.le_mul_of_pos_right _ hesz
    rcases onSl_true h3 with ⟨q1, q2, e1, h5⟩ | ⟨id, off, len, ver, es, e1, h5⟩
    · -- a nil slice
      obtain ⟨h6, h7⟩ := both_true h5
      obtain ⟨h8, h9⟩ := both_true h7
      have h6 := ble_true h6; have h8 := ble_true h8
      rw [← hcl] at h6 h9
      rw [e1] at rx
      have e2 := rx.inv_slnil
      have hfit : (0 + n) * i.bytes ≤ 140737488355328 := by
        have : n * i.bytes ≤ 4096 * 4096 := Nat.mul_le_mul (by omega) hby
        rw [Nat.zero_add]; omega
      obtain ⟨newCap, c1, c2⟩ := run_append_none (ty := ty) hts htu ht hu hdu hi hz w none 0 0 (ρ y) n cs [] hlen (hfc _ fun _ => rfl) rfl (by omega) hfit (by omega)
      obtain ⟨l1, l2, l3⟩ := hlaid 0 (fresh cs.length) (by rw [Nat.zero_add]; exact acap_fresh _ h6)
      have hcsz : (#[] ++ cs.toArray ++ Builtin.zeroCells z.cells (newCap - (0 + n)) : Array Value).size = cs.length + (newCap - n) * i.size := by
        simp [Builtin.zeroCells, hzs]
      obtain ⟨R', X⟩ := R.new (Nat.lt_succ_self h.next) (Nat.le_succ _) h8 R.fresh (T := h.tr) (c := src 0 (fresh cs.length)) (n := cs.length) (frz := 0) (elem := el) (ex := false) (cs := #[] ++ cs.toArray ++ Builtin.zeroCells z.cells (newCap - (0 + n))) (fr := (0, 0)) (base := 0) (B := w.heap.size) (w' := w.drew.alloc (.cells (#[] ++ cs.toArray ++ Builtin.zeroCells z.cells (newCap - (0 + n))) el)) (fun _ _ => .inl rfl)
        (by rw [l1]; exact acap_fresh _ h6) (by rw [hcsz]; omega) (fun j hj => by
          have hx : cs[j]? = some (cs[j]'hj) := List.getElem?_eq_getElem hj
          refine ⟨cs[j]'hj, by rw [Nat.zero_add]; simp [Array.getElem?_append, hj], ?_, hone _ (List.getElem_mem _)⟩
          have := l3 j _ hx
          rw [Nat.zero_add] at this; exact this) (fun q => by simp at q) (fun i _ _ => by simp) (push_new _ _) (by simp) (fun k hk _ => push_old _ _ _ hk) rfl rfl rfl (.inr (Nat.le_refl _))
      refine ⟨_, _, _, _, _, hex _ _ (by rw [e2]; exact c2), ?_, R', X _ (Nat.le_refl _), h9⟩
      have c1' : n ≤ newCap := by omega
      rw [show (0 + n) = n from Nat.zero_add n]
      refine RV.sl (l := ⟨w.heap.size, 0, cs.length, _⟩) (Phi.add_same _ _ _ _) (by show 0 + n * i.size ≤ cs.length; omega) c1' (fun _ => rfl) ?_
      have hcc : n * i.size + (newCap - n) * i.size = newCap * i.size := by rw [← Nat.add_mul]; congr 1; omega
      have hcsz2 := hcsz
      rw [show (0 + n) = n from Nat.zero_add n] at hcsz2
      show 0 + 0 + newCap * i.size ≤ (#[] ++ cs.toArray ++ Builtin.zeroCells z.cells (newCap - n) : Array Value).size
      rw [hcsz2]; omega
    · obtain ⟨h6, h7⟩ := both_true h5
      obtain rfl := beq_true h6
      obtain ⟨c, size, bver, frz, el', ex, own, e2, h8⟩ := onBk_true h7
      obtain ⟨hown, h9⟩ := both_true h8
      obtain ⟨h10, h11⟩ := both_true h9
      obtain rfl := beq_true h10
      obtain ⟨h12, h13⟩ := both_true h11
      obtain ⟨h14, h15⟩ := both_true h12
      obtain rfl := beq_true h14
      have hfrz := ble_true h15
      rw [e1] at rx
      obtain ⟨L, oo, cap, f1, f2, f3, f4, f5, e3⟩ := rx.inv_sl
      obtain ⟨L', ccs, fr, f1', b1, b2, b3, b4, b5, b6, b7, b8, b9⟩ := R.bk f1 e2
      rw [f1] at f1'; cases f1'
      have hid := R.lt f1
      have hOwn : Own φ h.tr L.B := ⟨id, L, hid, by rw [e2]; exact hown, by rw [e2]; exact f1, rfl⟩
      obtain ⟨olds, o1, o2, o3, o4⟩ := cellsAt R f1 e2 off (len * i.size) f2
      have holds : ∀ w', (∀ a, w'.cell? a = w.cell? a) → (Builtin.firstCells i.size len (.slice (some ⟨L.B, oo, none⟩) len cap)).run P w' = .ok olds.toArray w' := fun w' hw => by
        by_cases hz0 : len * i.size = 0
        · obtain rfl : olds = [] := List.eq_nil_of_length_eq_zero (by omega)
          show (loadCells ⟨L.B, oo, none⟩ (len * i.size)).run P w' = _
          rw [hz0]; rfl
        · have ho : oo = L.base + off := f4 (by intro q; rw [q] at f3; simp at f3; rw [f3] at hz0; simp at hz0)
          refine run_firstCells_some w' i.size len ⟨L.B, oo, none⟩ len cap olds o1 fun j v hj => ?_
          rw [add_addr, ho, hw]; exact o3 j v hj
      have hsum : len * i.size + n * i.size = (len + n) * i.size := (Nat.add_mul _ _ _).symm
      -- in place: the cells behind are stored
      have hstore : len + n ≤ cap → ∃ w' cs', (storeCells (Addr.add ⟨L.B, oo, none⟩ (len * i.size)) cs).run P w = .ok () w' ∧ w'.heap[L.B]? = some (.cells cs' el' fr) ∧ cs'.size = ccs.size ∧
          (∀ q, cs'[q]? = if L.base + off + len * i.size ≤ q ∧ q < L.base + off + len * i.size + cs.length then cs[q - (L.base + off + len * i.size)]? else ccs[q]?) ∧
          w'.heap.size = w.heap.size ∧ w'.os = w.os ∧ w'.tape = w.tape ∧ w'.output = w.output ∧ ∀ q, q ≠ L.B → w'.heap[q]? = w.heap[q]? := fun hroom => by
        have ho : oo = L.base + off := f4 (by omega)
        have hcapsz : (len + n) * i.size ≤ cap * i.size := Nat.mul_le_mul_right _ hroom
        rw [add_addr, ho]
        obtain ⟨w', cs', s1, s2, s3, s4, s5, s6, s7, s8, s9⟩ := storeCells_run (P := P) cs 0 (L.base + off + len * i.size) w ccs b2 hone (by omega) (fun j hj => by
          have := b8 hown (off + len * i.size + j) (by omega) (by omega)
          rw [show L.base + off + len * i.size + 0 + j = L.base + (off + len * i.size + j) from by omega]; exact this)
        exact ⟨w', cs', s1, s2, s3, fun q => by rw [s4 q, Nat.add_zero], s5, s6, s7, s8, s9⟩
      by_cases hfull : off = 0 ∧ len * i.size = size
      · obtain ⟨rfl, hsz⟩ := hfull
        have hbt : both (Nat.beq 0 0) (Nat.beq (len * i.size) size) = true := by rw [hsz]; simp [both]
        rw [hbt, bs_true] at h13
        obtain ⟨h16, h17⟩ := both_true h13
        have h16 := ble_true h16
        rw [← hcl] at h16 h17
        obtain ⟨l1, l2, l3⟩ := hlaid size (room (size + cs.length) c) (acap_room _ _ h16)
        have hcapc := acap_room_ge (size + cs.length) c
        have hnew : ∀ v, ver + 1 ≤ v → φ id v = none := fun v hv => b7 v (by omega)
        have hgood : ∀ (B' base' : Nat) (cs' : Array Value) (fr' : Nat × Nat) (w' : World), w'.heap[B']? = some (.cells cs' el' fr') → base' + (size + cs.length) ≤ cs'.size → (∀ j, j < size → cs'[base' + j]? = ccs[L.base + j]?) → (∀ j, j < cs.length → cs'[base' + size + j]? = cs[j]?) →
            (∀ j, frz ≤ j → base' + j < cs'.size → ¬ (fr'.1 ≤ base' + j ∧ base' + j < fr'.2)) → w.heap.size ≤ w'.heap.size → w'.os = w.os → w'.tape = w.tape → w'.output = w.output → (∀ q, q < w.heap.size → q ≠ B' → w'.heap[q]? = w.heap[q]?) → (B' = L.B ∨ w.heap.size ≤ B') →
            Rel (φ.add id (ver + 1) ⟨B', base', size + cs.length, cs'.size⟩) ⟨h.next, hset id (.bk (src size (room (size + cs.length) c)) (size + cs.length) (ver + 1) frz el' false true) h.tr⟩ w' ∧
            Ext φ h w (φ.add id (ver + 1) ⟨B', base', size + cs.length, cs'.size⟩) ⟨h.next, hset id (.bk (src size (room (size + cs.length) c)) (size + cs.length) (ver + 1) frz el' false true) h.tr⟩ w' := by
          intro B' base' cs' fr' w' g1 g2 g3 g4 g5 g6 g7 g8 g9 g10 g11
          have hle := φ.le_add id (ver + 1) ⟨B', base', size + cs.length, cs'.size⟩ (hnew _ (Nat.le_refl _))
          have hold : ∀ i v m, φ.add id (ver + 1) ⟨B', base', size + cs.length, cs'.size⟩ i v = some m → i ≠ id → φ i v = some m := fun i v m q hq => by
            rw [Phi.add_other _ _ (fun z => hq z.1)] at q; exact q
          have hBlt : B' < w'.heap.size := by
            by_cases q : B' < w'.heap.size
            · exact q
            · rw [Array.getElem?_eq_none (by omega)] at g1; simp at g1
          have hl : φ.add id (ver + 1) ⟨B', base', size + cs.length, cs'.size⟩ id (verOf (.bk (src size (room (size + cs.length) c)) (size + cs.length) (ver + 1) frz el' false true)) = some ⟨B', base', size + cs.length, cs'.size⟩ := Phi.add_same _ _ _ _
          have hbok : BlkOk (φ.add id (ver + 1) ⟨B', base', size + cs.length, cs'.size⟩) w' id (.bk (src size (room (size + cs.length) c)) (size + cs.length) (ver + 1) frz el' false true) := by
            refine ⟨_, cs', fr', Phi.add_same _ _ _ _, rfl, g1, rfl, g2, by rw [l1]; exact acap_room _ _ h16, fun j hj => ?_, fun v hv => by rw [Phi.add_other _ _ (by omega)]; exact hnew v (by omega), fun _ => g5, fun q => by simp at q⟩
            by_cases hj2 : j < size
            · obtain ⟨v, v1, v2, v3⟩ := b6 j (by omega)
              refine ⟨v, by rw [g3 j hj2]; exact v1, ?_, v3⟩
              rw [l2 j (by omega) (.inl hj2), aget_room _ _ _ (by omega)]
              exact v2.mono hle
            · have hq : j - size < cs.length := by omega
              have hx : cs[j - size]? = some (cs[j - size]'hq) := List.getElem?_eq_getElem hq
              refine ⟨cs[j - size]'hq, ?_, ?_, hone _ (List.getElem_mem _)⟩
              · have := g4 (j - size) hq
                rw [show base' + size + (j - size) = base' + j from by omega] at this
                show cs'[base' + j]? = _
                rw [this]; exact hx
              · have := (l3 (j - size) _ hx).mono hle
                rw [show size + (j - size) = j from by omega] at this; exact this
          refine ⟨R.put (id := id) (nx := h.next) (l := ⟨B', base', size + cs.length, cs'.size⟩) (R.dom _ _ _ f1).1 (Nat.le_refl _) R.next (fun _ _ _ => .inl rfl) hle hold ?_ g6 g10 hbok hl ?_,
            Ext.put (h := h) (n0 := h.next) (id := id) (l := ⟨B', base', size + cs.length, cs'.size⟩) hid (fun _ _ _ => .inl rfl) hle hold g6 g7 g8 g9 R.next (Nat.le_refl _) (.inr (by rw [e2]; simp)) g10 hl ?_⟩
          · intro v m q
            by_cases hv : v = ver + 1
            · subst hv; rw [Phi.add_same] at q; cases q; exact ⟨hBlt, g2⟩
            · rw [Phi.add_other _ _ (fun z => hv z.2)] at q
              obtain ⟨_, d1, d2⟩ := R.dom _ _ _ q
              exact ⟨by omega, d2⟩
          · intro j m hj hne hnb hm
            show m.B ≠ B'
            rcases g11 with rfl | g11
            · exact fun q => R.apart id j hid hj (Ne.symm hne) (by rw [e2]; exact hown) hnb L m (by rw [e2]; exact f1) hm q.symm
            · have := (R.dom _ _ _ hm).2.1; omega
          · rcases g11 with rfl | g11
            · exact .inl hOwn
            · exact .inr g11
        by_cases hroom : len + n ≤ cap
        · obtain ⟨w', cs', s1, s2, s3, s4, s5, s6, s7, s8, s9⟩ := hstore hroom
          have hcapsz : (len + n) * i.size ≤ cap * i.size := Nat.mul_le_mul_right _ hroom
          obtain ⟨R', X⟩ := hgood L.B L.base cs' fr w' s2 (by rw [s3]; omega) (fun j hj => by rw [s4, if_neg (by omega)]) (fun j hj => by
              rw [s4, if_pos (by omega)]; congr 1; omega) (fun j hj hj2 => b8 hown j hj (by omega)) (by omega) s6 s7 s8 (fun q _ hq => s9 q hq) (.inl rfl)
          refine ⟨_, .slice (some ⟨L.B, oo, none⟩) (len + n) cap, _, _, _, hex _ _ (by rw [e3]; exact run_append_room hts htu ht hu hdu hi w w' _ len cap _ n cs hlen (hfc w fun _ => rfl) hroom s1), ?_, R', X, h17⟩
          refine RV.sl (l := ⟨L.B, L.base, size + cs.length, cs'.size⟩) (Phi.add_same _ _ _ _) (by show 0 + (len + n) * i.size ≤ size + cs.length; omega) hroom (fun q => f4 q) ?_
          show L.base + 0 + cap * i.size ≤ cs'.size
          rw [s3]; omega
        · have hlen2 : len ≤ size := by rw [← hsz]; exact Nat.le_mul_of_pos_right _ hesz
          have hfit : (len + n) * i.bytes ≤ 140737488355328 := by
            have : (len + n) * i.bytes ≤ 4096 * 4096 := Nat.mul_le_mul (by omega) hby
            omega
          obtain ⟨newCap, c1, c2⟩ := run_append_none (ty := ty) hts htu ht hu hdu hi hz w (some ⟨L.B, oo, none⟩) len cap (ρ y) n cs olds hlen (hfc _ fun _ => rfl) (holds _ fun _ => rfl) (by omega) hfit (by omega)
          have hcsz : (olds.toArray ++ cs.toArray ++ Builtin.zeroCells z.cells (newCap - (len + n)) : Array Value).size = size + cs.length + (newCap - (len + n)) * i.size := by
            simp [Builtin.zeroCells, hzs, o1]; omega
          obtain ⟨R', X⟩ := hgood w.heap.size 0 (olds.toArray ++ cs.toArray ++ Builtin.zeroCells z.cells (newCap - (len + n))) (0, 0) (w.drew.alloc (.cells (olds.toArray ++ cs.toArray ++ Builtin.zeroCells z.cells (newCap - (len + n))) el')) (push_new _ _) (by rw [hcsz]; omega) (fun j hj => by
              have hjo : j < olds.length := by omega
              have := o3 j _ (List.getElem?_eq_getElem hjo)
              rw [Nat.add_zero, cell_of_block b2] at this
              rw [this, Nat.zero_add, Array.append_assoc, Array.getElem?_append_left (by simpa using hjo)]
              simp [hjo]) (fun j hj => by
              rw [Nat.zero_add, Array.append_assoc, Array.getElem?_append_right (by simp; omega), Array.getElem?_append_left (by simp; omega)]
              simp [o1, hsz]) (fun j _ _ => by simp) (by simp) rfl rfl rfl (fun q hq _ => push_old _ _ _ hq) (.inr (Nat.le_refl _))
          refine ⟨_, _, _, _, _, hex _ _ (by rw [e3]; exact c2), ?_, R', X, h17⟩
          refine RV.sl (l := ⟨w.heap.size, 0, size + cs.length, _⟩) (Phi.add_same _ _ _ _) (by show 0 + (len + n) * i.size ≤ size + cs.length; omega) c1 (fun _ => rfl) ?_
          show 0 + 0 + newCap * i.size ≤ (olds.toArray ++ cs.toArray ++ Builtin.zeroCells z.cells (newCap - (len + n)) : Array Value).size
          have hnc2 : (len + n) * i.size + (newCap - (len + n)) * i.size = newCap * i.size := by rw [← Nat.add_mul]; congr 1; omega
          rw [hcsz]; omega
      · have hbf : both (Nat.beq off 0) (Nat.beq (len * i.size) size) = false := by
          rw [← Bool.not_eq_true]; intro q
          obtain ⟨q1, q2⟩ := both_true q
          exact hfull ⟨beq_true q1, beq_true q2⟩
        rw [hbf, bs_false] at h13
        obtain ⟨h16, h17⟩ := both_true h13
        obtain ⟨h18, h19⟩ := both_true h17
        have h16 := ble_true h16; have h18 := ble_true h18
        rw [← hcl] at h16 h19
        obtain ⟨k1, k2, k3⟩ := acopy_laid (φ := φ) c olds off o4 0 (fresh (len * i.size + cs.length)) (by rw [Nat.zero_add]; have := acap_fresh _ h16; omega)
        rw [o1] at k1 k2 k3
        have hfc2 := acap_fresh _ h16
        obtain ⟨l1, l2, l3⟩ := hlaid (len * i.size) (acopy c (len * i.size) off 0 (fresh (len * i.size + cs.length))) (by rw [k1]; exact hfc2)
        rw [k1] at l1 l2
        have hcell : ∀ (base' : Nat) (cs' : Array Value), (∀ j, j < len * i.size → cs'[base' + j]? = olds[j]?) → (∀ j, j < cs.length → cs'[base' + len * i.size + j]? = cs[j]?) → ∀ j, j < len * i.size + cs.length →
            ∃ v, cs'[base' + j]? = some v ∧ RV φ (aget j (src (len * i.size) (acopy c (len * i.size) off 0 (fresh (len * i.size + cs.length))))) v ∧ v.oneCell' = true := by
          intro base' cs' g3 g4 j hj
          by_cases hj2 : j < len * i.size
          · have hx : olds[j]? = some (olds[j]'(by omega)) := List.getElem?_eq_getElem _
            refine ⟨olds[j]'(by omega), by rw [g3 j hj2]; exact hx, ?_, o2 _ (List.getElem_mem _)⟩
            rw [l2 j (by omega) (.inl hj2)]
            have := k3 j _ hx
            rw [Nat.zero_add] at this; exact this
          · have hq : j - len * i.size < cs.length := by omega
            have hx : cs[j - len * i.size]? = some (cs[j - len * i.size]'hq) := List.getElem?_eq_getElem hq
            refine ⟨cs[j - len * i.size]'hq, ?_, ?_, hone _ (List.getElem_mem _)⟩
            · have := g4 (j - len * i.size) hq
              rw [show base' + len * i.size + (j - len * i.size) = base' + j from by omega] at this
              rw [this]; exact hx
            · have := l3 (j - len * i.size) _ hx
              rw [show len * i.size + (j - len * i.size) = j from by omega] at this; exact this
        have hT : ∀ j, j < 262144 → hget j (hset id .nb h.tr) = hget j h.tr ∨ hget j (hset id .nb h.tr) = .nb := fun j hj => by
          rw [hget_hset _ _ _ _ hj hid]
          by_cases q : j = id
          · rw [if_pos q]; exact .inr rfl
          · rw [if_neg q]; exact .inl rfl
        by_cases hroom : len + n ≤ cap
        · obtain ⟨w', cs', s1, s2, s3, s4, s5, s6, s7, s8, s9⟩ := hstore hroom
          have hcapsz : (len + n) * i.size ≤ cap * i.size := Nat.mul_le_mul_right _ hroom
          obtain ⟨R', X⟩ := R.new (Nat.lt_succ_self h.next) (Nat.le_succ _) h18 R.fresh (T := hset id .nb h.tr) (c := src (len * i.size) (acopy c (len * i.size) off 0 (fresh (len * i.size + cs.length)))) (n := len * i.size + cs.length) (frz := frz) (elem := el') (ex := false) (cs := cs') (fr := fr) (base := L.base + off) (B := L.B) (w' := w') hT
            (by rw [l1]; exact hfc2) (by rw [s3]; omega) (hcell (L.base + off) cs' (fun j hj => by
              rw [s4, if_neg (by omega)]
              have hjo : j < olds.length := by omega
              have := o3 j _ (List.getElem?_eq_getElem hjo)
              rw [cell_of_block b2] at this
              rw [this]; exact (List.getElem?_eq_getElem hjo).symm) (fun j hj => by rw [s4, if_pos (by omega)]; congr 1; omega)) (fun q => by simp at q)
            (fun j hj hj2 => by have := b8 hown (off + j) (by omega) (by omega); rw [show L.base + off + j = L.base + (off + j) from by omega]; exact this) s2 (by omega) (fun q _ hq => s9 q hq) s6 s7 s8 (.inl ⟨hOwn, fun j m hj hnb hm => by
              rw [hget_hset _ _ _ _ hj hid] at hnb hm
              by_cases q : j = id
              · rw [if_pos q] at hnb; exact absurd rfl hnb
              · rw [if_neg q] at hnb hm
                exact fun z => R.apart id j hid hj (Ne.symm q) (by rw [e2]; exact hown) hnb L m (by rw [e2]; exact f1) hm z.symm⟩)
          refine ⟨_, .slice (some ⟨L.B, oo, none⟩) (len + n) cap, _, _, _, hex _ _ (by rw [e3]; exact run_append_room hts htu ht hu hdu hi w w' _ len cap _ n cs hlen (hfc w fun _ => rfl) hroom s1), ?_, R', X _ (Nat.le_refl _), h19⟩
          refine RV.sl (l := ⟨L.B, L.base + off, len * i.size + cs.length, cs'.size⟩) (Phi.add_same _ _ _ _) (by show 0 + (len + n) * i.size ≤ len * i.size + cs.length; omega) hroom (fun q => by rw [f4 q, Nat.add_zero]) ?_
          show L.base + off + 0 + cap * i.size ≤ cs'.size
          rw [s3]; omega
        · have hlen2 : len ≤ len * i.size := Nat.le_mul_of_pos_right _ hesz
          have hfit : (len + n) * i.bytes ≤ 140737488355328 := by
            have : (len + n) * i.bytes ≤ 4096 * 4096 := Nat.mul_le_mul (by omega) hby
            omega
          obtain ⟨newCap, c1, c2⟩ := run_append_none (ty := ty) hts htu ht hu hdu hi hz w (some ⟨L.B, oo, none⟩) len cap (ρ y) n cs olds hlen (hfc _ fun _ => rfl) (holds _ fun _ => rfl) (by omega) hfit (by omega)
          have hcsz : (olds.toArray ++ cs.toArray ++ Builtin.zeroCells z.cells (newCap - (len + n)) : Array Value).size = len * i.size + cs.length + (newCap - (len + n)) * i.size := by
            simp [Builtin.zeroCells, hzs, o1]
          obtain ⟨R', X⟩ := R.new (Nat.lt_succ_self h.next) (Nat.le_succ _) h18 R.fresh (T := hset id .nb h.tr) (c := src (len * i.size) (acopy c (len * i.size) off 0 (fresh (len * i.size + cs.length)))) (n := len * i.size + cs.length) (frz := frz) (elem := el') (ex := false) (cs := olds.toArray ++ cs.toArray ++ Builtin.zeroCells z.cells (newCap - (len + n))) (fr := (0, 0)) (base := 0) (B := w.heap.size)
            (w' := w.drew.alloc (.cells (olds.toArray ++ cs.toArray ++ Builtin.zeroCells z.cells (newCap - (len + n))) el')) hT
            (by rw [l1]; exact hfc2) (by rw [hcsz]; omega) (hcell 0 _ (fun j hj => by
              rw [Nat.zero_add, Array.append_assoc, Array.getElem?_append_left (by simp; omega)]; simp) (fun j hj => by
              rw [Nat.zero_add, Array.append_assoc, Array.getElem?_append_right (by simp; omega), Array.getElem?_append_left (by simp; omega)]
              simp [o1])) (fun q => by simp at q) (fun j _ _ => by simp) (push_new _ _) (by simp) (fun q hq _ => push_old _ _ _ hq) rfl rfl rfl (.inr (Nat.le_refl _))
          refine ⟨_, _, _, _, _, hex _ _ (by rw [e3]; exact c2), ?_, R', X _ (Nat.le_refl _), h19⟩
          refine RV.sl (l := ⟨w.heap.size, 0, len * i.size + cs.length, _⟩) (Phi.add_same _ _ _ _) (by show 0 + (len + n) * i.size ≤ len * i.size + cs.length; omega) c1 (fun _ => rfl) ?_
          show 0 + 0 + newCap * i.size ≤ (olds.toArray ++ cs.toArray ++ Builtin.zeroCells z.cells (newCap - (len + n)) : Array Value).size
          have hnc2 : (len + n) * i.size + (newCap - (len + n)) * i.size = newCap * i.size := by rw [← Nat.add_mul]; congr 1; omega
          rw [hcsz]; omega

end Go.Bvm
