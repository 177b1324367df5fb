/- The abstract machine: conversions, parts of tuples, calls. Conditions: none. -/
import Derived.Test.YtacpnpdggbfkgaaDoorBvmApp
set_option linter.unusedVariables false
namespace Go.Bvm
variable {P : Program} {G : Nat → Bool} {N : Fr} {q : Operand → Option V}

theorem s2b_ok {o : Oper} {src dst el : TypeId} {x : Operand} {id : Nat} {h : H} {k : KV} (hm : un q x (fun a => s2bA id el a h k) = true) (ho : o.op = .convert src dst x) (hs : P.underlying src = some .string) (hd : P.underlying dst = some (.slice el)) (he : P.underlying el = some (.int .u8)) :
    AopS P q o id h k := by
  obtain ⟨dst', op', ty, pos, aft, grd⟩ := o
  simp only at ho; subst ho
  intro φ ρ w r R hid hnone
  obtain ⟨g, hx, hm⟩ := un_true hm
  obtain ⟨l, n, e1, h2⟩ := onS_true hm
  obtain ⟨h3, h6⟩ := both_true h2
  have h3 := ble_true h3
  have rx := r _ _ hx
  rw [e1] at rx
  obtain ⟨s, e2, rfl, rfl⟩ := rx.inv_s
  have hl := abytes_laid (φ := φ) s.data.toList
  rw [← size_data] at hl
  have hlen : (s.data.toList.map fun b => Value.int .u8 (b.toNat : Int)).length = s.size := by rw [List.length_map, ← size_data]
  obtain ⟨k1, k2, k3⟩ := hl 0 (fresh s.size) (by rw [hlen, Nat.zero_add]; exact acap_fresh _ h3)
  have hcs : (Lib.bytesCells w el s).size = s.size + (Lib.bytesCells w el s).size - s.size := by omega
  have hge : s.size ≤ (Lib.bytesCells w el s).size := by
    unfold Lib.bytesCells
    rw [Array.size_append, Array.size_map]
    show s.size ≤ s.size + _
    omega
  have hcap : (Lib.bytesCells w el s).size = grownCap w s.size 0 el := by
    unfold Lib.bytesCells
    have : s.size ≤ grownCap w s.size 0 el := by unfold grownCap; exact Nat.le_add_right _ _
    rw [Array.size_append, Array.size_map, Array.size_replicate]
    show s.size + _ = _
    omega
  obtain ⟨R', X⟩ := R.new hid (Nat.le_refl _) R.next hnone (T := h.tr) (c := abytes s.size (pack s.data.toList) 0 (fresh s.size)) (n := s.size) (frz := 0) (elem := el) (ex := false) (cs := Lib.bytesCells w el s) (fr := ((Lib.bytesCells w el s).size, (Lib.bytesCells w el s).size + 1)) (base := 0) (B := w.heap.size) (w' := Lib.bytesWorld w el s) (fun _ _ => .inl rfl)
    (by rw [k1]; exact acap_fresh _ h3) (by omega) (fun j hj => by
      have hj2 : j < s.data.toList.length := by rw [← size_data]; exact hj
      have hx : (s.data.toList.map fun b => Value.int .u8 (b.toNat : Int))[j]? = some (.int .u8 ((s.data.toList[j]'hj2).toNat : Int)) := by rw [List.getElem?_map, List.getElem?_eq_getElem hj2]; rfl
      refine ⟨.int .u8 ((s.data.toList[j]'hj2).toNat : Int), ?_, ?_, rfl⟩
      · rw [Nat.zero_add]; unfold Lib.bytesCells
        rw [Array.getElem?_append_left (by rw [Array.size_map]; exact hj), Array.getElem?_map, Array.getElem?_eq_getElem (by exact hj)]
        rfl
      · have := k3 j _ hx
        rw [Nat.zero_add] at this; exact this) (fun q => by simp at q) (fun i _ hi => by simp at hi ⊢; omega) (Lib.bytesWorld_at_new _ _ _) (by rw [Lib.bytesWorld_size]; omega) (fun q hq _ => Lib.bytesWorld_at_old _ _ _ _ hq) rfl rfl rfl (.inr (Nat.le_refl _))
  refine ⟨_, _, run_value (convert src dst (ρ x)) _ _ _ (by rw [e2]; exact Lib.run_convert_string_bytes w src dst el s hs hd he), _, _, _, h6, ?_, R', X, fun i v hi => Phi.add_other _ _ (fun z => hi z.1)⟩
  refine RV.sl (l := ⟨w.heap.size, 0, s.size, _⟩) (Phi.add_same _ _ _ _) (by show 0 + s.size * 1 ≤ s.size; omega) (by unfold grownCap; exact Nat.le_add_right _ _) (fun _ => rfl) ?_
  show 0 + 0 + grownCap w s.size 0 el * 1 ≤ (Lib.bytesCells w el s).size
  rw [hcap]; omega

theorem packA_true {φ : Phi} {c : Arr} : ∀ (q : List Value) (i : Nat) (k : Nat → Bool), packA c q.length i k = true → (∀ (j : Nat) v, q[j]? = some v → RV φ (aget (i + j) c) v) →
    ∃ bs : List UInt8, q = bs.map (fun b => .int .u8 (b.toNat : Int)) ∧ k (pack bs) = true
  | [], i, k, h, _ => ⟨[], rfl, h⟩
  | v :: r, i, k, h, hr => by
    have h0 := hr 0 v (by simp)
    rw [Nat.add_zero] at h0
    obtain ⟨b, hv, h'⟩ := onY_true (show onY (aget i c) (fun b => packA c r.length (i + 1) fun z => k (b + 256 * z)) = true from h)
    rw [hv] at h0
    obtain ⟨hb, rfl⟩ := h0.inv_y
    obtain ⟨bs, e1, e2⟩ := packA_true r (i + 1) _ h' (fun j u hu => by
      have := hr (j + 1) u (by simpa using hu)
      rw [show i + 1 + j = i + (j + 1) from by omega]; exact this)
    refine ⟨UInt8.ofNat b :: bs, ?_, ?_⟩
    · rw [e1, List.map_cons]; congr 2
      rw [UInt8.toNat_ofNat_of_lt' (by simpa using hb)]
    · simp only [pack]
      rw [UInt8.toNat_ofNat_of_lt' (by simpa using hb)]; exact e2

theorem push_fold : ∀ (bs : List UInt8) (s : ByteArray), (bs.map fun b => (b.toNat : Int)).foldl (fun r n => r.push (UInt8.ofNat n.toNat)) s = ⟨s.data ++ bs.toArray⟩
  | [], s => by simp
  | b :: r, s => by
    simp only [List.map_cons, List.foldl_cons]
    rw [push_fold r]
    apply bytes_ext
    simp [ByteArray.push]

theorem b2s_ok {o : Oper} {src dst el : TypeId} {x : Operand} {h : H} {k : V → Bool} (hm : un q x (fun a => b2s a h k) = true) (ho : o.op = .convert src dst x) (hs : P.underlying src = some (.slice el)) (hd : P.underlying dst = some .string) (he : P.underlying el = some (.int .u8)) {φ : Phi} {ρ : Operand → Value} {w : World} (r : QR φ q ρ) (R : Rel φ h w) :
    ∃ v c, (execOp ρ o).run P w = .ok (.value c) w ∧ RV φ v c ∧ k v = true := by
  obtain ⟨dst', op', ty, pos, aft, grd⟩ := o
  simp only at ho; subst ho
  obtain ⟨g, hx, hm⟩ := un_true hm
  have rx := r _ _ hx
  rcases onSl_true hm with ⟨q1, q2, e1, h2⟩ | ⟨id, off, len, ver, es, e1, h2⟩
  · rw [e1] at rx
    have e2 := rx.inv_slnil
    exact ⟨_, .string .empty, run_value (convert src dst (ρ x)) _ _ _ (by rw [e2, run_convert_bytes_string w src dst el _ _ _ hs he hd]; rfl), .s rfl rfl, h2⟩
  · obtain ⟨h3, h4⟩ := both_true h2
    obtain rfl := beq_true h3
    obtain ⟨c, size, bver, frz, elem, ex, own, e2, h5⟩ := onBk_true h4
    obtain ⟨h6, h7⟩ := both_true h5
    obtain rfl := beq_true h6
    rw [e1] at rx
    obtain ⟨L, oo, cap, f1, f2, f3, f4, f5, e3⟩ := rx.inv_sl
    obtain ⟨q, q1, q2, q3, q4⟩ := cellsAt R f1 e2 off len (by omega)
    rw [← q1] at h7
    obtain ⟨bs, b1, b2⟩ := packA_true q off _ h7 q4
    have hlb : bs.length = len := by rw [← q1, b1, List.length_map]
    have hload : (loadCells ⟨L.B, oo, none⟩ len).run P w = .ok ((bs.map fun b => (b.toNat : Int)).map (Value.int .u8)).toArray w := by
      have hq : (bs.map fun b => (b.toNat : Int)).map (Value.int .u8) = q := by rw [b1, List.map_map]; rfl
      rw [hq]
      by_cases hz : len = 0
      · subst hz
        obtain rfl : q = [] := List.eq_nil_of_length_eq_zero q1
        rfl
      · have ho : oo = L.base + off := f4 (by omega)
        rw [← q1]
        exact run_loadCells_list w ⟨L.B, oo, none⟩ q fun j v hj => by rw [add_addr, ho]; exact q3 j v hj
    refine ⟨_, .string ⟨bs.toArray⟩, run_value (convert src dst (ρ x)) _ _ _ ?_, .s ?_ ?_, b2⟩
    · rw [e3, run_convert_bytes_string w src dst el _ _ _ hs he hd, run_bytesToString w _ _ _ _ hload, push_fold]
      simp
    · rw [size_data]; simpa using (hlb.trans q1.symm)
    · simp

theorem conv_run {src dst : TypeId} {k k' : IntKind} {v : Value} {n : Int} {q : IntKind} (hs : P.underlying src = some (.int k)) (hd : P.underlying dst = some (.int k')) (w : World) : (convert src dst (.int q n)).run P w = .ok (.int k' (k'.wrap n)) w := by
  unfold convert
  simp [run_under hs, run_under hd, Conv.intToInt]

theorem toW_true {v : V} {k : V → Bool} {c : Value} {φ : Phi} (h : toW v k = true) (r : RV φ v c) : ∃ q n m, c = .int q n ∧ k (.w m) = true ∧ (m : Int) = (n + 9223372036854775808) % 18446744073709551616 := by
  cases v <;> try exact Bool.noConfusion (show false = true from h)
  · obtain ⟨hn, rfl⟩ := r.inv_w
    exact ⟨_, _, _, rfl, h, by omega⟩
  · obtain ⟨hn, rfl⟩ := r.inv_y
    exact ⟨_, _, _, rfl, h, by unfold bias; omega⟩
  · rename_i g a b
    cases g <;> try exact Bool.noConfusion (show false = true from h)
    rename_i q n
    obtain ⟨_, _, rfl⟩ := r.inv_int
    refine ⟨_, _, _, rfl, h, ?_⟩
    have := wrap_i64 n ((n + 9223372036854775808) % 18446744073709551616).toNat (by omega)
    rw [this]; omega
theorem toY_true {v : V} {k : V → Bool} {c : Value} {φ : Phi} (h : toY v k = true) (r : RV φ v c) : ∃ q n m, c = .int q n ∧ k (.y m) = true ∧ (m : Int) = n % 256 := by
  cases v <;> try exact Bool.noConfusion (show false = true from h)
  · obtain ⟨hn, rfl⟩ := r.inv_w
    exact ⟨_, _, _, rfl, h, by omega⟩
  · obtain ⟨hn, rfl⟩ := r.inv_y
    exact ⟨_, _, _, rfl, h, by omega⟩
  · rename_i g a b
    cases g <;> try exact Bool.noConfusion (show false = true from h)
    rename_i q n
    obtain ⟨_, _, rfl⟩ := r.inv_int
    refine ⟨_, _, _, rfl, h, ?_⟩
    have := wrap_u8 n (n % 256).toNat (by omega)
    rw [this]; omega
theorem toI_true {v : V} {k : V → Bool} {c : Value} {φ : Phi} {z : IntKind} (h : toI z v k = true) (r : RV φ v c) : ∃ q n, c = .int q n ∧ k (mkI z (z.wrap n)) = true := by
  cases v <;> try exact Bool.noConfusion (show false = true from h)
  · obtain ⟨hn, rfl⟩ := r.inv_w
    exact ⟨_, _, rfl, h⟩
  · obtain ⟨hn, rfl⟩ := r.inv_y
    exact ⟨_, _, rfl, h⟩
  · rename_i g a b
    cases g <;> try exact Bool.noConfusion (show false = true from h)
    obtain ⟨_, _, rfl⟩ := r.inv_int
    exact ⟨_, _, rfl, h⟩

theorem toW_fun {src dst : TypeId} {k : IntKind} (hs : P.underlying src = some (.int k)) (hd : P.underlying dst = some (.int .i64)) : Fun1 P toW (fun v => convert src dst v) := by
  intro φ x kk h c hc w
  obtain ⟨q, n, m, rfl, hk, hm⟩ := toW_true h hc
  exact ⟨_, _, conv_run (v := .nilIface) hs hd w, RV.mk_w _ _ hm, hk⟩
theorem toY_fun {src dst : TypeId} {k : IntKind} (hs : P.underlying src = some (.int k)) (hd : P.underlying dst = some (.int .u8)) : Fun1 P toY (fun v => convert src dst v) := by
  intro φ x kk h c hc w
  obtain ⟨q, n, m, rfl, hk, hm⟩ := toY_true h hc
  exact ⟨_, _, conv_run (v := .nilIface) hs hd w, RV.mk_y _ _ hm, hk⟩
theorem toI_fun {src dst : TypeId} {k z : IntKind} (h1 : z ≠ .i64) (h2 : z ≠ .u8) (hs : P.underlying src = some (.int k)) (hd : P.underlying dst = some (.int z)) : Fun1 P (toI z) (fun v => convert src dst v) := by
  intro φ x kk h c hc w
  obtain ⟨q, n, rfl, hk⟩ := toI_true h hc
  exact ⟨_, _, conv_run (v := .nilIface) hs hd w, RV.mkI h1 h2, hk⟩
theorem str_fun {src dst : TypeId} (hs : P.underlying src = some .string) (hd : P.underlying dst = some .string) (s : ByteArray) (w : World) : (convert src dst (.string s)).run P w = .ok (.string s) w := by
  unfold convert
  simp [run_under hs, run_under hd]

/-! tuples -/
theorem vnth_true {φ : Phi} : ∀ (l : V) (n : Nat) (k : V → Bool) (cs : List Value), vnth l n k = true → RL φ l cs → ∃ x c, cs[n]? = some c ∧ RV φ x c ∧ k x = true
  | .x .cons a b, n, k, cs, h, r => by
    cases r with
    | cons ha hb =>
      cases n with
      | zero => exact ⟨a, _, rfl, ha, h⟩
      | succ n =>
        obtain ⟨x, c, e1, e2, e3⟩ := vnth_true b n k _ h hb
        exact ⟨x, c, by simpa using e1, e2, e3⟩
  | .x .nil _ _, _, _, _, h, _ => Bool.noConfusion (show false = true from h)
  | .w _, _, _, _, h, _ => Bool.noConfusion (show false = true from h)
  | .y _, _, _, _, h, _ => Bool.noConfusion (show false = true from h)
  | .t _, _, _, _, h, _ => Bool.noConfusion (show false = true from h)
  | .s _ _, _, _, _, h, _ => Bool.noConfusion (show false = true from h)
  | .p _ _ _ _, _, _, _, h, _ => Bool.noConfusion (show false = true from h)
  | .sl _ _ _ _ _, _, _, _, h, _ => Bool.noConfusion (show false = true from h)
  | .x (.int _ _) _ _, _, _, _, h, _ => Bool.noConfusion (show false = true from h)
  | .x .pnil _ _, _, _, _, h, _ => Bool.noConfusion (show false = true from h)
  | .x .slnil _ _, _, _, _, h, _ => Bool.noConfusion (show false = true from h)
  | .x .fnil _ _, _, _, _, h, _ => Bool.noConfusion (show false = true from h)
  | .x .inil _ _, _, _, _, h, _ => Bool.noConfusion (show false = true from h)
  | .x .mnil _ _, _, _, _, h, _ => Bool.noConfusion (show false = true from h)
  | .x .undef _ _, _, _, _, h, _ => Bool.noConfusion (show false = true from h)
  | .x .agg _ _, _, _, _, h, _ => Bool.noConfusion (show false = true from h)
  | .x .tup _ _, _, _, _, h, _ => Bool.noConfusion (show false = true from h)
  | .x (.iface _) _ _, _, _, _, h, _ => Bool.noConfusion (show false = true from h)
  | .x (.func _) _ _, _, _, _, h, _ => Bool.noConfusion (show false = true from h)
  | .x (.map _) _ _, _, _, _, h, _ => Bool.noConfusion (show false = true from h)
  | .x .osl _ _, _, _, _, h, _ => Bool.noConfusion (show false = true from h)
  | .x .nn _ _, _, _, _, h, _ => Bool.noConfusion (show false = true from h)
  | .x .any _ _, _, _, _, h, _ => Bool.noConfusion (show false = true from h)

theorem ext_fun (i : Nat) : Fun1 P (ext i) (fun v => Instr.extract v i) := by
  intro φ x k h c hc w
  obtain ⟨l, b, rfl, h2⟩ := onTup_true h
  cases hc with
  | tup hl =>
    rename_i q
    obtain ⟨x, c, e1, e2, e3⟩ := vnth_true l i k _ h2 hl
    refine ⟨x, c, ?_, e2, e3⟩
    have e4 : (⟨q⟩ : Array Value)[i]? = some c := by simpa using e1
    show (match (⟨q⟩ : Array Value)[i]? with | some v => pure v | none => stuck "Extract: no such component" : Sem Value).run P w = _
    rw [e4]; rfl

/-! calls -/
theorem vapp_rel {φ : Phi} {b : V} {m : List Value} (hb : RL φ b m) : ∀ (a : V) (l : List Value), RL φ a l → RL φ (vapp a b) (l ++ m)
  | _, _, .nil => hb
  | _, _, .cons h r => .cons h (vapp_rel hb _ _ r)

/-- what a function's table says of calls -/
def CallS (P : Program) (G : Nat → Bool) (cf : CallF) : Prop := ∀ f l h k, cf f l h k = true → ∀ φ w args, GlobOk P G φ → RL φ l args → Rel φ h w → OpRun P (callFunc f ⟨args⟩) w (FPost k φ h w)

theorem call_ok {cf : CallF} (hcf : CallS P G cf) {o : Oper} {f : Nat} {xs : Array Operand} {ts : Array TypeId} {l : V} {h : H} {k : KV} (hm : cf f l h k = true) (hl : oprs q xs.toList = some l) (ho : o.op = .call ⟨.value (.func f), xs, ts⟩) {φ : Phi} {ρ : Operand → Value} {w : World} (hg : GlobOk P G φ) (hf : ρ (.func f) = .func (.func f) #[] #[]) (r : QR φ q ρ) (R : Rel φ h w) :
    OpRun P (execOp ρ o) w (FPost k φ h w) := by
  obtain ⟨dst, op', ty, pos, aft, grd⟩ := o
  simp only at ho; subst ho
  have hex : execOp ρ ⟨dst, .call ⟨.value (.func f), xs, ts⟩, ty, pos, aft, grd⟩ = callFunc f ⟨xs.toList.map ρ⟩ := by
    have e1 : (#[] ++ Array.map ρ xs ++ #[] : Array Value) = ⟨xs.toList.map ρ⟩ := by apply Array.ext'; simp
    rw [← e1]
    show (do let d ← Deferred.ofValue (ρ (.func f)) (xs.map ρ); invoke d.target d.args : Sem Next) = _
    rw [hf]; rfl
  rw [hex]
  exact hcf f l h _ hm φ w _ hg (oprs_ok r _ _ hl) R

theorem callv_ok {cf : CallF} (hcf : CallS P G cf) {o : Oper} {x : Operand} {g : V} {xs : Array Operand} {ts : Array TypeId} {l : V} {h : H} {k : KV} (hm : callV cf g l h k = true) (hx : q x = some g) (hl : oprs q xs.toList = some l) (ho : o.op = .call ⟨.value x, xs, ts⟩) {φ : Phi} {ρ : Operand → Value} {w : World} (hg : GlobOk P G φ) (r : QR φ q ρ) (R : Rel φ h w) :
    OpRun P (execOp ρ o) w (FPost k φ h w) := by
  obtain ⟨dst, op', ty, pos, aft, grd⟩ := o
  simp only at ho; subst ho
  obtain ⟨f, c1, c2, e1, h2⟩ := onFn_true hm
  have rx := r _ _ hx
  rw [e1] at rx
  generalize hc : ρ x = cv at rx
  cases rx with
  | func r1 r2 =>
    rename_i l1 l2
    have hex : execOp ρ ⟨dst, .call ⟨.value x, xs, ts⟩, ty, pos, aft, grd⟩ = callFunc f ⟨l1 ++ xs.toList.map ρ ++ l2⟩ := by
      have e1 : ((⟨l1⟩ : Array Value) ++ Array.map ρ xs ++ (⟨l2⟩ : Array Value) : Array Value) = ⟨l1 ++ xs.toList.map ρ ++ l2⟩ := by apply Array.ext'; simp
      rw [← e1]
      show (do let d ← Deferred.ofValue (ρ x) (xs.map ρ); invoke d.target d.args : Sem Next) = _
      rw [hc]; rfl
    rw [hex]
    exact hcf f _ h _ h2 φ w _ hg (vapp_rel r2 _ _ (vapp_rel (oprs_ok r _ _ hl) _ _ r1)) R

end Go.Bvm
