/- The abstract machine: going through a string; maps. Conditions: none. -/
import Derived.Test.YtacpnpdggbfkgaaDoorBvmEqs
import Derived.Laws.RangeString
set_option linter.unusedVariables false
namespace Go.Bvm
variable {P : Program} {q : Operand → Option V}

theorem onIt_true {b : Blk} {k : Nat → Nat → Nat → Bool} (h : onIt b k = true) : ∃ l n pos, b = .it l n pos ∧ k l n pos = true := by
  cases b <;> first | exact Bool.noConfusion (show false = true from h) | exact ⟨_, _, _, rfl, h⟩
theorem onMp_true {b : Blk} {k : V → Bool} (h : onMp b k = true) : ∃ kv, b = .mp kv ∧ k kv = true := by
  cases b <;> first | exact Bool.noConfusion (show false = true from h) | exact ⟨_, rfl, h⟩
theorem onMap_true {v : V} {kn : Bool} {k : Nat → Bool} (h : onMap v kn k = true) : (∃ a b, v = .x .mnil a b ∧ kn = true) ∨ ∃ id a b, v = .x (.map id) a b ∧ k id = true := by
  cases v <;> first | exact Bool.noConfusion (show false = true from h) | skip
  rename_i g a b
  cases g <;> first | exact Bool.noConfusion (show false = true from h) | exact .inl ⟨_, _, rfl, h⟩ | exact .inr ⟨_, _, _, rfl, h⟩
theorem RV.inv_map {φ : Phi} {id : Nat} {a b : V} {c : Value} (h : RV φ (.x (.map id) a b) c) : ∃ l, φ id 0 = some l ∧ c = .map (some l.B) := by cases h with | map e => exact ⟨_, e, rfl⟩
theorem RV.inv_mnil {φ : Phi} {a b : V} {c : Value} (h : RV φ (.x .mnil a b) c) : c = .map none := by cases h; rfl

/-- a new block that is no row of cells -/
theorem Rel.newO {φ : Phi} {h : H} {w : World} (R : Rel φ h w) {id : Nat} (hid : id < h.next) (hnone : ∀ v, φ id v = none) {ob : Obj} {b : Blk} (hv : verOf b = 0)
    (hb : ∀ φ' : Phi, φ.le φ' → φ' id 0 = some ⟨w.heap.size, 0, 0, 0⟩ → (∀ v, 0 < v → φ' id v = none) → BlkOk φ' (w.alloc ob) id b) :
    Rel (φ.add id 0 ⟨w.heap.size, 0, 0, 0⟩) ⟨h.next, hset id b h.tr⟩ (w.alloc ob) ∧ ∀ n0, n0 ≤ id → Ext φ ⟨n0, h.tr⟩ w (φ.add id 0 ⟨w.heap.size, 0, 0, 0⟩) ⟨h.next, hset id b h.tr⟩ (w.alloc ob) := by
  have hnx := R.next
  have hle := φ.le_add id 0 ⟨w.heap.size, 0, 0, 0⟩ (hnone 0)
  have hold : ∀ i v m, φ.add id 0 ⟨w.heap.size, 0, 0, 0⟩ i v = some m → i ≠ id → φ i v = some m := fun i v m e k => by
    rw [Phi.add_other _ _ (fun q => k q.1)] at e; exact e
  have hl : φ.add id 0 ⟨w.heap.size, 0, 0, 0⟩ id (verOf b) = some ⟨w.heap.size, 0, 0, 0⟩ := by rw [hv]; exact Phi.add_same _ _ _ _
  have hB := hb _ hle (Phi.add_same _ _ _ _) (fun v hv => by rw [Phi.add_other _ _ (by omega)]; exact hnone v)
  have hsz : w.heap.size ≤ (w.alloc ob).heap.size := by simp
  have hheap : ∀ k, k < w.heap.size → k ≠ w.heap.size → (w.alloc ob).heap[k]? = w.heap[k]? := fun k hk _ => push_old _ _ _ hk
  refine ⟨R.put (id := id) (nx := h.next) (l := ⟨w.heap.size, 0, 0, 0⟩) hid (Nat.le_refl _) R.next (fun i hi _ => .inl rfl) hle hold ?_ hsz hheap hB hl ?_, fun n0 hn0 => Ext.put (h := h) (id := id) (l := ⟨w.heap.size, 0, 0, 0⟩) (by omega) (fun i hi _ => .inl rfl) hle hold hsz rfl rfl rfl (by omega) (by omega) (.inl hn0) hheap hl (.inr (Nat.le_refl _))⟩
  · intro v m e
    by_cases k : v = 0
    · subst k; rw [Phi.add_same] at e; cases e; exact ⟨by simp, Nat.le_refl _⟩
    · rw [Phi.add_other _ _ (by omega), hnone] at e; simp at e
  · intro j m hj hne hnb hm
    have := (R.dom _ _ _ hm).2.1
    show m.B ≠ w.heap.size
    omega

theorem itA_ok {o : Oper} {t : TypeId} {x : Operand} {id : Nat} {h : H} {k : KV} (hm : un q x (fun a => itA id a h k) = true) (ho : o.op = .range t x) (ht : P.underlying t = some .string) : AopS P q o id h k := by
  obtain ⟨dst, op', ty, pos, aft, grd⟩ := o
  simp only at ho; subst ho
  obtain ⟨g, hx, hm⟩ := un_true hm
  intro φ ρ w r R hid hnone
  obtain ⟨l, n, e1, h1⟩ := onS_true hm
  obtain ⟨h0, h1⟩ := both_true h1
  have rx := r _ _ hx
  rw [e1] at rx
  obtain ⟨s, e2, e3, e4⟩ := rx.inv_s
  obtain ⟨R', X⟩ := R.newO hid hnone (ob := .stringIter s 0) (b := .it l n 0) rfl (fun φ' _ a b => ⟨_, s, a, rfl, push_new _ _, e3, by omega, by rw [List.drop_zero]; exact e4, b⟩)
  refine ⟨_, _, run_value (Instr.range t (ρ x)) _ _ _ (by rw [e2]; exact run_range_string w t s ht), _, _, _, h1, ?_, R', X, fun i v hi => Phi.add_other _ _ (fun z => hi z.1)⟩
  have := RV.p (φ := φ.add id 0 ⟨w.heap.size, 0, 0, 0⟩) (off := 0) (lim := 0) (Phi.add_same _ _ _ _) (Nat.le_refl _)
  exact this

theorem mapA_ok {o : Oper} {t : TypeId} {id : Nat} {h : H} {k : KV} (hm : mapA id h k = true) (ho : o.op = .makeMap t none) : AopS P q o id h k := by
  obtain ⟨dst, op', ty, pos, aft, grd⟩ := o
  simp only at ho; subst ho
  intro φ ρ w r R hid hnone
  obtain ⟨R', X⟩ := R.newO hid hnone (ob := .map #[] 0) (b := .mp V.nil) rfl (fun φ' _ a b => ⟨_, _, _, a, rfl, push_new _ _, .nil, b⟩)
  refine ⟨_, _, run_value (Instr.makeMap t none) _ _ _ (by unfold Instr.makeMap; rfl), _, _, _, hm, ?_, R', X, fun i v hi => Phi.add_other _ _ (fun z => hi z.1)⟩
  have := RV.map (φ := φ.add id 0 ⟨w.heap.size, 0, 0, 0⟩) (a := V.nil) (b := V.nil) (Phi.add_same φ id 0 ⟨w.heap.size, 0, 0, 0⟩)
  exact this

/-- one block of another kind, turned in place -/
theorem Rel.setO {φ : Phi} {h : H} {w : World} (R : Rel φ h w) {id : Nat} {l : Loc} (hl : φ id 0 = some l) {ob : Obj} {b b' : Blk} (h0 : hget id h.tr = b) (hv0 : verOf b = 0) (hown : owns b = true) (hv : verOf b' = 0) (hb : BlkOk φ { w with heap := w.heap.setIfInBounds l.B ob } id b') :
    Rel φ ⟨h.next, hset id b' h.tr⟩ { w with heap := w.heap.setIfInBounds l.B ob } ∧ Ext φ h w φ ⟨h.next, hset id b' h.tr⟩ { w with heap := w.heap.setIfInBounds l.B ob } := by
  have hid := R.lt hl
  have hne : b ≠ .nb := fun k => by rw [k] at hown; simp [owns] at hown
  have hheap : ∀ B, B ≠ l.B → ({ w with heap := w.heap.setIfInBounds l.B ob } : World).heap[B]? = w.heap[B]? := fun B hB => by
    show (w.heap.setIfInBounds l.B ob)[B]? = _
    rw [Array.getElem?_setIfInBounds_ne (fun e => hB e.symm)]
  have hOwn : Own φ h.tr l.B := ⟨id, l, hid, by rw [h0]; exact hown, by rw [h0, hv0]; exact hl, rfl⟩
  have hsz : ({ w with heap := w.heap.setIfInBounds l.B ob } : World).heap.size = w.heap.size := by simp
  refine ⟨R.put (φ' := φ) (id := id) (nx := h.next) (b := b') (T := h.tr) (l := l) (R.dom _ _ _ hl).1 (Nat.le_refl _) R.next (fun _ _ _ => .inl rfl) φ.le_refl (fun _ _ _ q _ => q)
      (fun v m q => by rw [hsz]; exact (R.dom _ _ _ q).2) (by omega) (fun B _ hB => hheap B hB) hb (by rw [hv]; exact hl)
      (fun j m hj hne' hnb hjm => fun q => R.apart id j hid hj (Ne.symm hne') (by rw [h0]; exact hown) hnb l m (by rw [h0, hv0]; exact hl) hjm q.symm),
    Ext.put (h := h) (φ := φ) (φ' := φ) (w := w) (id := id) (n0 := h.next) (nx := h.next) (b := b') (T := h.tr) (l := l) hid (fun _ _ _ => .inl rfl) φ.le_refl (fun _ _ _ q _ => q) (by omega) rfl rfl rfl R.next (Nat.le_refl _) (.inr (by rw [h0]; exact hne)) (fun B _ hB => hheap B hB) (by rw [hv]; exact hl) (.inl hOwn)⟩

theorem drop_cons {s : ByteArray} {pos : Nat} (h : pos < s.size) : s.data.toList.drop pos = (s[pos]'h) :: s.data.toList.drop (pos + 1) := by
  rw [List.drop_eq_getElem_cons (by simpa using h)]
  rfl

theorem itN_ok {o : Oper} {x : Operand} {h : H} {k : KV} (hm : un q x (fun a => itN a h k) = true) (ho : o.op = .next x true) {φ : Phi} {ρ : Operand → Value} {w : World} (r : QR φ q ρ) (R : Rel φ h w) : OpRun P (execOp ρ o) w (FPost k φ h w) := by
  obtain ⟨dst, op', ty, ps, aft, grd⟩ := o
  simp only at ho; subst ho
  obtain ⟨g, hx, hm⟩ := un_true hm
  have rx := r _ _ hx
  obtain ⟨id, off, lim, ver, e1, h1⟩ := onP_true hm
  obtain ⟨h2, h3⟩ := both_true h1
  obtain ⟨h4, h5⟩ := both_true h3
  obtain ⟨l, n, pos, e2, h6⟩ := onIt_true h5
  obtain ⟨h7, h8⟩ := both_true h6
  have h7 := ble_true h7
  obtain rfl := beq_true h2
  obtain rfl := beq_true h4
  rw [e1] at rx
  obtain ⟨L, f1, _, f2⟩ := rx.inv_p
  have hB := R.blk id (R.lt f1)
  rw [e2] at hB
  obtain ⟨L', s, g1, g2, g3, g4, g5, g6, g7⟩ := hB
  rw [f1] at g1; cases g1
  have hρ : ρ x = .pointer (some ⟨L.B, 0, none⟩) := by rw [f2, g2]
  cases hle : Nat.ble l pos with
  | true =>
    rw [hle, bs_true] at h8
    have hle := Nat.le_of_ble_eq_true hle
    refine .inl ⟨.tuple #[.bool false], w, run_value (Instr.next (ρ x) true ty) _ _ _ ?_, _, h, φ, h8, .tup (.cons .t .nil), R, .refl _ _ _⟩
    rw [hρ]
    simp [Instr.next, getObj, Sem.run, g3, show ¬ pos < s.size from by omega]
  | false =>
    rw [hle, bs_false] at h8
    have hlt : pos < s.size := by
      have : ¬ l ≤ pos := fun k => by rw [Nat.ble_eq_true_of_le k] at hle; simp at hle
      omega
    obtain ⟨h9, h10⟩ := both_true h8
    have h9 : n % 256 ≤ 127 := ble_true h9
    have hdc := drop_cons hlt
    rw [hdc] at g6
    have hn1 : n % 256 = (s[pos]'hlt).toNat := by rw [← g6]; simp only [pack]; have := (s[pos]'hlt).toNat_lt; omega
    have hn2 : n / 256 = pack (s.data.toList.drop (pos + 1)) := by rw [← g6]; simp only [pack]; have := (s[pos]'hlt).toNat_lt; omega
    have hlB : L.B < w.heap.size := (R.dom _ _ _ f1).2.1
    obtain ⟨R', X⟩ := R.setO f1 (ob := .stringIter s (pos + 1)) (b' := .it l (Nat.div n 256) (Nat.succ pos)) e2 rfl rfl rfl
      ⟨L, s, f1, g2, by show (w.heap.setIfInBounds L.B _)[L.B]? = _; simp [hlB], g4, by show pos + 1 ≤ l; omega, by show pack (s.data.toList.drop (pos + 1)) = n / 256; rw [hn2], g7⟩
    refine .inl ⟨.tuple #[.bool true, .int .i64 (pos : Int), .int .i32 ((s[pos]'hlt).toNat : Int)], _, run_value (Instr.next (ρ x) true ty) _ _ _ ?_, _, _, φ, h10, ?_, R', X⟩
    · rw [hρ]
      have hd := decode_ascii s pos hlt (by omega)
      simp only [Instr.next, getObj, setObj, Sem.run_bind, Sem.run, g3, Result.andThen, hlt, if_true, hd]
      simp [goInt]
    · refine .tup (.cons .t (.cons (RV.nat (by omega)) (.cons ?_ .nil)))
      show RV φ (mkI .i32 ((n % 256 : Nat) : Int)) _
      rw [hn1]
      exact .int (by simp) (by simp)


/-- a key sought -/
def findNow' (s : ByteArray) (es : List MapEntry) (i : Nat) : Option (Option (Nat × Value)) := Instr.findNow .string (.string s) es i
theorem fndK_true {φ : Phi} {s : ByteArray} {yes : V → Bool} {no : Bool} : ∀ {kv : V} {es : List MapEntry}, ML φ kv es → fndK s.size (pack s.data.toList) kv yes no = true → ∀ i0,
    (∃ i e v, findNow' s es i0 = some (some (i, e)) ∧ RV φ v e ∧ yes v = true) ∨ findNow' s es i0 = some none ∧ no = true := by
  intro kv es hM
  induction hM with
  | nil => intro h i0; exact .inr ⟨rfl, h⟩
  | cons hk hv hr ih =>
    rename_i k v r e es
    intro h i0
    have h : (onCons (.x .cons k v) fun key val => onS key fun l' n' => bs (seqB s.size (pack s.data.toList) l' n') (yes val) (fndK s.size (pack s.data.toList) r yes no)) = true := h
    have h : (onS k fun l' n' => bs (seqB s.size (pack s.data.toList) l' n') (yes v) (fndK s.size (pack s.data.toList) r yes no)) = true := h
    obtain ⟨l', n', e1, h1⟩ := onS_true h
    rw [e1] at hk
    obtain ⟨s', e2, rfl, rfl⟩ := hk.inv_s
    rw [seqB_eq] at h1
    have hfn : findNow' s (e :: es) i0 = if (s == s') = true then some (some (i0, e.val)) else findNow' s es (i0 + 1) := by
      have hsn : Instr.sameNow .string (.string s) e.key = some (s == s') := by rw [e2]; rfl
      show (match Instr.sameNow .string (.string s) e.key with
        | some true => some (some (i0, e.val))
        | some false => findNow' s es (i0 + 1)
        | none => none) = _
      rw [hsn]
      cases (s == s') <;> rfl
    rw [hfn, beq_toListBytes]
    cases hq : (s.toList == s'.toList) with
    | true =>
      rw [hq, bs_true] at h1
      exact .inl ⟨i0, e.val, v, rfl, hv, h1⟩
    | false =>
      rw [hq, bs_false] at h1
      exact ih h1 (i0 + 1)

theorem ML.app {φ : Phi} {X : V} {ys : List MapEntry} (hX : ML φ X ys) : ∀ {kv : V} {es : List MapEntry}, ML φ kv es → ML φ (vapp kv X) (es ++ ys) := by
  intro kv es hM
  induction hM with
  | nil => exact hX
  | cons hk hv _ ih => exact .cons hk hv ih

theorem run_findKey {kt : TypeId} (hk : P.underlying kt = some .string) {s : ByteArray} {es : List MapEntry} {r : Option (Nat × Value)} (h : findNow' s es 0 = some r) (w : World) : (Instr.findKey kt (.string s) es).run P w = .ok r w := by
  unfold Instr.findKey
  rw [Sem.run_bind, run_underlying hk]
  simp only [Result.andThen_ok]
  have h : Instr.findNow .string (.string s) es 0 = some r := h
  rw [h]
  rfl
theorem run_checkKey {kt : TypeId} (hk : P.underlying kt = some .string) (b : Bool) (s : ByteArray) (w : World) : (Instr.checkKey b 10000 kt (.string s)).run P w = .ok () w := by
  show (Instr.checkKey b (9999 + 1) kt (.string s)).run P w = .ok () w
  unfold Instr.checkKey
  rw [Sem.run_bind, run_underlying hk]
  rfl

theorem mpI_ok {o : Oper} {t kt et : TypeId} {x y z : Operand} {h : H} {k : KV} (hm : un q x (fun a => bi q y z fun b c => mpI a b c h k) = true) (ho : o.op = .insert t x y z) (ht : P.underlying t = some (.map kt et)) (hkt : P.underlying kt = some .string) {φ : Phi} {ρ : Operand → Value} {w : World} (r : QR φ q ρ) (R : Rel φ h w) : OpRun P (execOp ρ o) w (FPost k φ h w) := by
  obtain ⟨dst, op', ty, ps, aft, grd⟩ := o
  simp only at ho; subst ho
  obtain ⟨g, hx, hm⟩ := un_true hm
  obtain ⟨g', g'', hy, hz, hm⟩ := bi_true hm
  have rx := r _ _ hx
  have ry := r _ _ hy
  have rz := r _ _ hz
  rcases onMap_true hm with ⟨_, _, _, hf⟩ | ⟨id, a, b, e1, h1⟩
  · simp at hf
  obtain ⟨l, n, e2, h2⟩ := onS_true h1
  obtain ⟨kv, e3, h3⟩ := onMp_true h2
  rw [e1] at rx
  have ry0 := ry
  rw [e2] at ry
  obtain ⟨L, f1, f2⟩ := rx.inv_map
  obtain ⟨s, f3, rfl, rfl⟩ := ry.inv_s
  have hB := R.blk id (R.lt f1)
  rw [e3] at hB
  obtain ⟨L', es, clock, g1, g2, g3, g4, g5⟩ := hB
  rw [f1] at g1; cases g1
  rcases fndK_true g4 h3 0 with ⟨_, _, _, _, _, hf⟩ | ⟨hfn, hk⟩
  · simp at hf
  have hlB : L.B < w.heap.size := (R.dom _ _ _ f1).2.1
  obtain ⟨R', X⟩ := R.setO f1 (ob := .map (es.push { key := .string s, val := ρ z, born := clock }) (clock + 1)) (b' := .mp (vapp kv (.x .cons (.x .cons g' g'') V.nil))) e3 rfl rfl rfl
    ⟨L, es.push { key := .string s, val := ρ z, born := clock }, clock + 1, f1, g2, by show (w.heap.setIfInBounds L.B _)[L.B]? = _; simp [hlB], by
      rw [Array.toList_push]
      exact ML.app (.cons (by show RV φ g' (Value.string s); rw [← f3]; exact ry0) rz .nil) g4, g5⟩
  refine .inr (.inl ⟨_, ?_, V.u, _, φ, hk, .undef, R', X⟩)
  show (do Instr.mapUpdate t (ρ x) (ρ y) (ρ z); pure .skip : Sem Next).run P w = _
  rw [Sem.run_bind, f2, f3]
  have : (Instr.mapUpdate t (.map (some L.B)) (.string s) (ρ z)).run P w = .ok () { w with heap := w.heap.setIfInBounds L.B (.map (es.push { key := .string s, val := ρ z, born := clock }) (clock + 1)) } := by
    unfold Instr.mapUpdate
    rw [Sem.run_bind, run_underlying ht]
    simp only [Result.andThen_ok]
    rw [Sem.run_bind]
    have hg : (getObj L.B).run P w = .ok (.map es clock) w := by simp only [getObj, Sem.run, g3]
    rw [hg]
    simp only [Result.andThen_ok]
    rw [Sem.run_bind, run_checkKey hkt]
    simp only [Result.andThen_ok]
    rw [Sem.run_bind, run_findKey hkt hfn]
    simp only [Result.andThen_ok]
    simp only [setObj, Sem.run]
    rw [g3]
  rw [this]; rfl

theorem mpR_ok {φ : Phi} {ok b : Bool} {v : V} {c : Value} (r : RV φ v c) : RV φ (mpR ok v b) (if ok = true then .tuple #[c, .bool b] else c) := by
  cases ok with
  | true => exact .tup (.cons r (.cons .t .nil))
  | false => exact r

theorem mpL_ok {o : Oper} {t kt et : TypeId} {x y : Operand} {ok : Bool} {i : TypeInfo} {z : Value} {a : V} {h : H} {k : V → Bool} (hm : bi q x y (fun u v => mpL ok a u v h k) = true) (ho : o.op = .lookup t x y ok) (ht : P.underlying t = some (.map kt et)) (hkt : P.underlying kt = some .string) (hi : P.info? et = some i) (hz : i.zero = some z) (ha : absV z = some a)
    {φ : Phi} {ρ : Operand → Value} {w : World} (r : QR φ q ρ) (R : Rel φ h w) : ∃ v c, (execOp ρ o).run P w = .ok (.value c) w ∧ RV φ v c ∧ k v = true := by
  obtain ⟨dst, op', ty, ps, aft, grd⟩ := o
  simp only at ho; subst ho
  obtain ⟨g, g', hx, hy, hm⟩ := bi_true hm
  have rx := r _ _ hx
  have ry := r _ _ hy
  obtain ⟨l, n, e1, h1⟩ := onS_true hm
  rw [e1] at ry
  obtain ⟨s, f1, rfl, rfl⟩ := ry.inv_s
  have hzero : (zeroValue et).run P w = .ok z w := by
    unfold zeroValue
    rw [Sem.run_bind, run_info hi]
    simp only [Result.andThen_ok, hz]; rfl
  have hrun : ∀ c, (Instr.lookup t (ρ x) (ρ y) ok).run P w = .ok c w → (execOp ρ ⟨dst, .lookup t x y ok, ty, ps, aft, grd⟩).run P w = .ok (.value c) w := fun c hc => run_value (Instr.lookup t (ρ x) (ρ y) ok) _ _ _ hc
  have hlook : ∀ (es : Array MapEntry) (w0 : World) (fst : Sem (Array MapEntry)), fst.run P w = .ok es w → ∀ res, findNow' s es.toList 0 = some res →
      (do
        let es ← fst
        Instr.checkKey es.isEmpty 10000 kt (.string s)
        let (v, okk) ← match ← Instr.findKey kt (.string s) es.toList with
          | some (_, v) => pure (v, true)
          | none => pure (← zeroValue et, false)
        pure (if ok then .tuple #[v, .bool okk] else v) : Sem Value).run P w = .ok (match res with | some (_, v) => (if ok = true then .tuple #[v, .bool true] else v) | none => (if ok = true then .tuple #[z, .bool false] else z)) w := by
    intro es _ fst hf res hres
    rw [Sem.run_bind, hf]
    simp only [Result.andThen_ok]
    rw [Sem.run_bind, run_checkKey hkt]
    simp only [Result.andThen_ok]
    rw [Sem.run_bind, run_findKey hkt hres]
    simp only [Result.andThen_ok]
    cases res with
    | none =>
      simp only
      rw [Sem.run_bind]
      rw [hzero]; rfl
    | some iv => rfl
  rcases onMap_true h1 with ⟨_, _, e2, h2⟩ | ⟨id, a', b', e2, h2⟩
  · rw [e2] at rx
    have f2 := rx.inv_mnil
    refine ⟨_, _, hrun _ ?_, mpR_ok (absV_ok φ z a ha), h2⟩
    rw [f2, f1]
    unfold Instr.lookup
    rw [Sem.run_bind, run_underlying ht]
    simp only [Result.andThen_ok]
    exact hlook #[] w (pure #[]) rfl none rfl
  · obtain ⟨kv, e3, h3⟩ := onMp_true h2
    rw [e2] at rx
    obtain ⟨L, g1, f2⟩ := rx.inv_map
    have hB := R.blk id (R.lt g1)
    rw [e3] at hB
    obtain ⟨L', es, clock, g1', g2, g3, g4, g5⟩ := hB
    rw [g1] at g1'; cases g1'
    have hg0 : (getObj L.B).run P w = .ok (.map es clock) w := by simp only [getObj, Sem.run, g3]
    rcases fndK_true g4 h3 0 with ⟨i, e, v, hfn, rv, hk⟩ | ⟨hfn, hk⟩
    · refine ⟨_, _, hrun _ ?_, mpR_ok rv, hk⟩
      rw [f2, f1]
      unfold Instr.lookup
      rw [Sem.run_bind, run_underlying ht]
      simp only [Result.andThen_ok]
      rw [Sem.run_bind, hg0]
      simp only [Result.andThen_ok]
      exact hlook es w (pure es) rfl (some (i, e)) hfn
    · refine ⟨_, _, hrun _ ?_, mpR_ok (absV_ok φ z a ha), hk⟩
      rw [f2, f1]
      unfold Instr.lookup
      rw [Sem.run_bind, run_underlying ht]
      simp only [Result.andThen_ok]
      rw [Sem.run_bind, hg0]
      simp only [Result.andThen_ok]
      exact hlook es w (pure es) rfl none hfn

end Go.Bvm
