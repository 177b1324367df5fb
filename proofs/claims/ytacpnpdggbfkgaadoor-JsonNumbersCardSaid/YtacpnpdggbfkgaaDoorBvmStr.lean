/- The abstract machine: strings and comparisons. Conditions: none. -/
import Derived.Test.YtacpnpdggbfkgaaDoorBvmPure
import Derived.Laws.Strings
import Derived.Laws.Concat
set_option linter.unusedVariables false
namespace Go.Bvm

theorem pack_lt : ∀ l : List UInt8, pack l < 256 ^ l.length
  | [] => by simp [pack]
  | b :: r => by
    have h := pack_lt r
    have hb : b.toNat < 256 := b.toNat_lt
    simp only [pack, List.length_cons, Nat.pow_succ]
    omega
theorem pack_drop : ∀ (l : List UInt8) (i : Nat), pack (l.drop i) = pack l / 256 ^ i
  | l, 0 => by simp
  | [], i + 1 => by simp [pack]
  | b :: r, i + 1 => by
    have hb : b.toNat < 256 := b.toNat_lt
    simp only [List.drop_succ_cons, pack]
    rw [pack_drop r i, Nat.pow_succ, Nat.mul_comm (256 ^ i) 256, ← Nat.div_div_eq_div_mul]
    have h2 : (b.toNat + 256 * pack r) / 256 = pack r := by omega
    rw [h2]
theorem pack_take : ∀ (l : List UInt8) (i : Nat), pack (l.take i) = pack l % 256 ^ i
  | l, 0 => by simp [pack, Nat.mod_one]
  | [], i + 1 => by simp [pack]
  | b :: r, i + 1 => by
    have hb : b.toNat < 256 := b.toNat_lt
    simp only [List.take_succ_cons, pack]
    rw [pack_take r i, Nat.pow_succ, Nat.mul_comm (256 ^ i) 256, Nat.mod_mul]
    have h1 : (b.toNat + 256 * pack r) % 256 = b.toNat := by omega
    have h2 : (b.toNat + 256 * pack r) / 256 = pack r := by omega
    rw [h1, h2]
theorem pack_append : ∀ (l m : List UInt8), pack (l ++ m) = pack l + 256 ^ l.length * pack m
  | [], m => by simp [pack]
  | b :: r, m => by
    simp only [List.cons_append, pack, List.length_cons]
    rw [pack_append r m, Nat.pow_succ, Nat.mul_add, ← Nat.mul_assoc, Nat.mul_comm 256 (256 ^ r.length)]
    omega
theorem pack_inj : ∀ (l m : List UInt8), l.length = m.length → pack l = pack m → l = m
  | [], [], _, _ => rfl
  | [], _ :: _, h, _ => by simp at h
  | _ :: _, [], h, _ => by simp at h
  | a :: l, b :: m, h, e => by
    have ha : a.toNat < 256 := a.toNat_lt
    have hb : b.toNat < 256 := b.toNat_lt
    simp only [pack] at e
    have e1 : a.toNat = b.toNat := by omega
    have e2 : pack l = pack m := by omega
    rw [pack_inj l m (by simpa using h) e2, UInt8.toNat_inj.1 e1]
theorem pack_byte (l : List UInt8) (i : Nat) (b : UInt8) (h : l[i]? = some b) : sbyte (pack l) i = b.toNat := by
  unfold sbyte
  show (pack l) >>> (8 * i) % 256 = _
  rw [Nat.shiftRight_eq_div_pow, Nat.pow_mul, show (2 : Nat) ^ 8 = 256 from rfl, ← pack_drop]
  obtain ⟨hi, rfl⟩ := List.getElem?_eq_some_iff.1 h
  rw [List.drop_eq_getElem_cons hi]
  simp only [pack]
  have := (l[i]).toNat_lt
  omega

theorem toList_data (s : ByteArray) : s.toList = s.data.toList := ByteArray.toList_eq s
theorem size_data (s : ByteArray) : s.size = s.data.toList.length := by
  cases s with | mk a => exact (Array.length_toList (xs := a)).symm
theorem bytes_ext {a b : ByteArray} (h : a.data.toList = b.data.toList) : a = b := by
  cases a; cases b; congr; exact Array.toList_inj.1 h

theorem sless_eq : ∀ (l m : List UInt8), sless l.length (pack l) m.length (pack m) = Op.bytesLess l m
  | [], [] => rfl
  | [], _ :: _ => rfl
  | _ :: _, [] => rfl
  | a :: l, b :: m => by
    have ha : a.toNat < 256 := a.toNat_lt
    have hb : b.toNat < 256 := b.toNat_lt
    have e1 : (a.toNat + 256 * pack l) % 256 = a.toNat := by omega
    have e2 : (b.toNat + 256 * pack m) % 256 = b.toNat := by omega
    have e3 : (a.toNat + 256 * pack l) / 256 = pack l := by omega
    have e4 : (b.toNat + 256 * pack m) / 256 = pack m := by omega
    show bs (Nat.beq ((a.toNat + 256 * pack l) % 256) ((b.toNat + 256 * pack m) % 256)) (sless l.length ((a.toNat + 256 * pack l) / 256) m.length ((b.toNat + 256 * pack m) / 256))
      (Nat.ble ((a.toNat + 256 * pack l) % 256 + 1) ((b.toNat + 256 * pack m) % 256)) = _
    rw [e1, e2, e3, e4, sless_eq l m]
    simp only [Op.bytesLess]
    by_cases h : a.toNat = b.toNat
    · have : a = b := UInt8.toNat_inj.1 h
      subst this
      simp [Nat.beq_refl]
    · have h' : ¬ a = b := fun e => h (by rw [e])
      have hq : Nat.beq a.toNat b.toNat = false := by rw [← Bool.not_eq_true]; intro k; exact h (Nat.eq_of_beq_eq_true k)
      rw [hq]
      simp only [bs_false]
      have : (a == b) = false := by simp [h']
      rw [this]
      simp only [Bool.false_and, Bool.or_false]
      rw [Bool.eq_iff_iff]
      simp [Nat.ble_eq, UInt8.lt_iff_toNat_lt]
      omega

theorem seqB_eq (s t : ByteArray) : seqB s.size (pack s.data.toList) t.size (pack t.data.toList) = (s.toList == t.toList) := by
  rw [toList_data, toList_data, Bool.eq_iff_iff]
  unfold seqB
  constructor
  · intro h
    obtain ⟨h1, h2⟩ := both_true h
    have h1 := beq_true h1; have h2 := beq_true h2
    rw [size_data, size_data] at h1
    rw [pack_inj _ _ h1 h2]; simp
  · intro h
    have h : s.data.toList = t.data.toList := by simpa using h
    rw [bytes_ext h]
    simp [both]

theorem cmp_true {f : Nat → Nat → Bool} {g : Int → Int → Bool} {hs : Nat → Nat → Nat → Nat → (V → Bool) → Bool} {x y : V} {k : V → Bool} (h : cmpV f g hs x y k = true) :
    (∃ n m, x = .w n ∧ y = .w m ∧ k (.t (f n m)) = true) ∨ (∃ n m, x = .y n ∧ y = .y m ∧ k (.t (f n m)) = true) ∨ (∃ l n l' n', x = .s l n ∧ y = .s l' n' ∧ hs l n l' n' k = true) ∨
    (∃ q n m a b a' b', x = .x (.int q n) a b ∧ y = .x (.int q m) a' b' ∧ k (.t (g n m)) = true) := by
  rcases bs_cases h with ⟨h1, h2⟩ | ⟨_, h2⟩
  · obtain ⟨h3, h4⟩ := both_true h2
    exact .inl ⟨_, _, isW_true h1, isW_true h3, h4⟩
  · rcases bs_cases h2 with ⟨h3, h4⟩ | ⟨_, h4⟩
    · obtain ⟨h5, h6⟩ := both_true h4
      exact .inr (.inl ⟨_, _, isY_true h3, isY_true h5, h6⟩)
    · rcases bs_cases h4 with ⟨h5, h6⟩ | ⟨_, h6⟩
      · obtain ⟨h7, h8⟩ := both_true h6
        exact .inr (.inr (.inl ⟨_, _, _, _, isS_true h5, isS_true h7, h8⟩))
      · obtain ⟨h7, h8⟩ := both_true h6
        obtain ⟨h9, h10⟩ := both_true h8
        obtain ⟨h11, h12⟩ := both_true h10
        have h11 : xK x = xK y := by simpa using h11
        have hy := vtgInt_true h9
        rw [← h11] at hy
        exact .inr (.inr (.inr ⟨_, _, _, _, _, _, _, vtgInt_true h7, hy, h12⟩))

variable (P : Program)

theorem intCmp_run (op : BinOp) (t : TypeId) (q : IntKind) (n m : Int) (w : World) (r : Bool) (h1 : op = .eql ∨ op = .neq ∨ op = .lss ∨ op = .leq ∨ op = .gtr ∨ op = .geq) (h : Op.intCmp op n m = pure (.bool r)) :
    (Go.binOp op t (.int q n) (.int q m)).run P w = .ok (.bool r) w := by
  rw [intOp_run _ _ _ _ _ (by rcases h1 with rfl | rfl | rfl | rfl | rfl | rfl <;> simp) (by rcases h1 with rfl | rfl | rfl | rfl | rfl | rfl <;> simp)]
  rcases h1 with rfl | rfl | rfl | rfl | rfl | rfl <;> (simp only; rw [h]; rfl)

theorem cmp_fun (op : BinOp) (t : TypeId) (f : Nat → Nat → Bool) (g : Int → Int → Bool) (hs : Nat → Nat → Nat → Nat → (V → Bool) → Bool) (h1 : op = .eql ∨ op = .neq ∨ op = .lss ∨ op = .leq ∨ op = .gtr ∨ op = .geq)
    (hg : ∀ n m, Op.intCmp op n m = pure (.bool (g n m))) (hf : ∀ n m : Nat, ∀ c : Int, g ((n : Int) - c) ((m : Int) - c) = f n m)
    (hss : ∀ (s u : ByteArray) k, hs s.size (pack s.data.toList) u.size (pack u.data.toList) k = true → ∃ r, Op.stringOp op s u = pure (.bool r) ∧ k (.t r) = true) :
    Fun2 P (cmpV f g hs) (Go.binOp op t) := by
  intro φ x y k h c d hc hd w
  rcases cmp_true h with ⟨n, m, rfl, rfl, hk⟩ | ⟨n, m, rfl, rfl, hk⟩ | ⟨l, n, l', n', rfl, rfl, hk⟩ | ⟨q, n, m, _, _, _, _, rfl, rfl, hk⟩ <;> clear h
  · obtain ⟨hn, rfl⟩ := hc.inv_w; obtain ⟨hm, rfl⟩ := hd.inv_w
    exact ⟨_, _, intCmp_run P op t _ _ _ w _ h1 (hg _ _), by rw [hf n m]; exact .t, hk⟩
  · obtain ⟨hn, rfl⟩ := hc.inv_y; obtain ⟨hm, rfl⟩ := hd.inv_y
    refine ⟨_, _, intCmp_run P op t _ _ _ w _ h1 (hg _ _), ?_, hk⟩
    have := hf n m 0
    simp only [Int.sub_zero] at this
    rw [this]; exact .t
  · obtain ⟨s, rfl, rfl, rfl⟩ := hc.inv_s; obtain ⟨u, rfl, rfl, rfl⟩ := hd.inv_s
    obtain ⟨r, e, hk⟩ := hss s u k hk
    refine ⟨.t r, .bool r, ?_, .t, hk⟩
    have : Go.binOp op t (.string s) (.string u) = Op.stringOp op s u := by
      rcases h1 with rfl | rfl | rfl | rfl | rfl | rfl <;> rfl
    rw [this, e]; rfl
  · obtain ⟨_, _, rfl⟩ := hc.inv_int; obtain ⟨_, _, rfl⟩ := hd.inv_int
    exact ⟨_, _, intCmp_run P op t _ _ _ w _ h1 (hg _ _), .t, hk⟩

theorem nots_eq (b : Bool) : nots b = !b := by cases b <;> rfl
theorem sless_sz (s u : ByteArray) : sless s.size (pack s.data.toList) u.size (pack u.data.toList) = Op.bytesLess s.toList u.toList := by
  rw [size_data, size_data, sless_eq, toList_data, toList_data]

theorem bytesLess_total : ∀ (l m : List UInt8), (Op.bytesLess l m || (l == m)) = !(Op.bytesLess m l)
  | [], [] => rfl
  | [], _ :: _ => rfl
  | _ :: _, [] => rfl
  | a :: l, b :: m => by
    have ih := bytesLess_total l m
    simp only [Op.bytesLess]
    by_cases h : a = b
    · subst h
      simp at ih ⊢
      exact ih
    · have h3 : a.toNat ≠ b.toNat := fun e => h (UInt8.toNat_inj.1 e)
      have hab : (a == b) = false := by simp [h]
      have hba : (b == a) = false := by simp; exact fun e => h e.symm
      rw [hab, hba, List.cons_beq_cons, hab]
      simp only [Bool.false_and, Bool.or_false]
      rw [Bool.eq_iff_iff]
      simp [UInt8.lt_iff_toNat_lt]
      omega

theorem lss_fun (t : TypeId) : Fun2 P lssV (Go.binOp .lss t) :=
  cmp_fun P .lss t _ _ _ (by simp) (fun _ _ => rfl) (fun n m c => by rw [Bool.eq_iff_iff]; simp [Nat.ble_eq]; omega) (fun s u k hk => ⟨_, rfl, by rw [sless_sz] at hk; exact hk⟩)
theorem geq_fun (t : TypeId) : Fun2 P geqV (Go.binOp .geq t) := by
  intro φ x y k h c d hc hd w
  unfold geqV at h
  cases hn : vtagNN x with
  | true =>
    rw [hn, bs_true] at h
    have hx := vtagNN_true hn
    obtain ⟨m, rfl, h2⟩ := onW_true h
    obtain ⟨h3, hk⟩ := both_true h2
    have h3 := ble_true h3
    rw [hx] at hc
    cases hc with
    | nn h0 =>
      rename_i n
      obtain ⟨_, rfl⟩ := hd.inv_w
      refine ⟨_, .bool true, ?_, .t, hk⟩
      refine intCmp_run P .geq t _ _ _ w true (by simp) ?_
      unfold bias at h3
      simp only [Op.intCmp]
      have : decide (n ≥ (m : Int) - 9223372036854775808) = true := by simp only [decide_eq_true_eq]; omega
      rw [this]
  | false =>
    rw [hn, bs_false] at h
    exact cmp_fun P .geq t (fun a b => Nat.ble b a) (fun a b => decide (a ≥ b)) (fun l n l' n' k => k (.t (nots (sless l n l' n')))) (by simp) (fun _ _ => rfl) (fun n m c => by rw [Bool.eq_iff_iff]; simp [Nat.ble_eq]) (fun s u k hk => ⟨_, rfl, by rw [sless_sz, nots_eq] at hk; exact hk⟩) φ x y k h c d hc hd w
theorem leq_fun (t : TypeId) : Fun2 P leqV (Go.binOp .leq t) :=
  cmp_fun P .leq t _ _ _ (by simp) (fun _ _ => rfl) (fun n m c => by rw [Bool.eq_iff_iff]; simp [Nat.ble_eq]) (fun s u k hk => ⟨_, rfl, by
    rw [sless_sz, nots_eq, ← bytesLess_total] at hk; exact hk⟩)
theorem gtr_fun (t : TypeId) : Fun2 P gtrV (Go.binOp .gtr t) :=
  cmp_fun P .gtr t _ _ _ (by simp) (fun _ _ => rfl) (fun n m c => by rw [Bool.eq_iff_iff]; simp [Nat.ble_eq]; omega) (fun s u k hk => ⟨_, rfl, by
    rw [sless_sz] at hk; show k (.t (!(Op.bytesLess s.toList u.toList || (s.toList == u.toList)))) = true; rw [bytesLess_total, Bool.not_not]; exact hk⟩)

theorem natbeq (n m : Nat) : Nat.beq n m = decide (n = m) := by rw [Bool.eq_iff_iff]; simp
theorem eql_fun (t : TypeId) : Fun2 P (eqlP idB) (Go.binOp .eql t) :=
  cmp_fun P .eql t _ _ _ (by simp) (fun n m => by simp only [Op.intCmp, idB]; congr) (fun n m c => by rw [natbeq]; simp only [idB]; rw [Bool.eq_iff_iff]; simp; omega) (fun s u k hk => ⟨_, rfl, by
    simp only [idB] at hk; rw [seqB_eq] at hk; exact hk⟩)
theorem neq_fun (t : TypeId) : Fun2 P (eqlP nots) (Go.binOp .neq t) :=
  cmp_fun P .neq t _ _ _ (by simp) (fun n m => by simp only [Op.intCmp, nots_eq]; congr) (fun n m c => by rw [natbeq, nots_eq, nots_eq]; congr 1; rw [Bool.eq_iff_iff]; simp; omega) (fun s u k hk => ⟨_, rfl, by
    simp only [nots_eq] at hk; rw [seqB_eq] at hk; exact hk⟩)

theorem cat_fun (t : TypeId) : Fun2 P catV (Go.binOp .add t) := by
  intro φ x y k h c d hc hd w
  obtain ⟨l, n, rfl, h2⟩ := onS_true h
  obtain ⟨l', n', rfl, h3⟩ := onS_true h2
  obtain ⟨h1, hk⟩ := both_true h3
  have h1 := ble_true h1
  clear h h2 h3
  obtain ⟨s, rfl, rfl, rfl⟩ := hc.inv_s; obtain ⟨u, rfl, rfl, rfl⟩ := hd.inv_s
  refine ⟨_, .string (s ++ u), ?_, ?_, hk⟩
  · rw [show Go.binOp .add t (.string s) (.string u) = Op.stringOp .add s u from rfl]
    exact run_string_add_sum w s u (by omega)
  · refine .s (by simp [ByteArray.size_append]) ?_
    have e : (s ++ u).data.toList = s.data.toList ++ u.data.toList := by simp
    rw [e, pack_append, ← size_data]
    show pack s.data.toList + _ = pack s.data.toList + (pack u.data.toList) <<< (8 * s.size)
    rw [Nat.shiftLeft_eq, Nat.pow_mul, show (2 : Nat) ^ 8 = 256 from rfl, Nat.mul_comm]

theorem plus_fun (t : TypeId) : Fun2 P plusV (Go.binOp .add t) := by
  intro φ x y k h c d hc hd w
  unfold plusV at h
  cases e : isS x
  · rw [e] at h; exact add_fun P t φ x y k h c d hc hd w
  · rw [e] at h; exact cat_fun P t φ x y k h c d hc hd w

theorem sidx_fun (t : TypeId) (ht : P.underlying t = some .string) : Fun2 P sidxV (fun a b => Instr.index t a b) := by
  intro φ x y k h c d hc hd w
  obtain ⟨l, n, rfl, h3⟩ := onS_true h
  obtain ⟨q, m, rfl, h4⟩ := onIx_true h3 hd
  obtain ⟨h2, hk⟩ := both_true h4
  have h2 := ble_true h2
  clear h h3 h4
  obtain ⟨s, rfl, rfl, rfl⟩ := hc.inv_s
  have hlt : m < s.size := by omega
  refine ⟨_, .int .u8 ((s[m]'hlt).toNat : Int), ?_, ?_, hk⟩
  · show (Instr.index t (.string s) (.int q (m : Int))).run P w = _
    rw [run_index_string w t s _ _ ht, dif_pos ⟨by omega, by omega⟩]
    rfl
  · have : s.data.toList[m]? = some (s[m]'hlt) := by
      rw [List.getElem?_eq_some_iff]
      exact ⟨by rw [← size_data]; exact hlt, rfl⟩
    rw [pack_byte _ _ _ this]
    exact .y (UInt8.toNat_lt _)

theorem not_fun : Fun1 P notV (fun v => Op.unary .not v) := by
  intro φ x k h c hc w
  obtain ⟨b, rfl, hk⟩ := onT_true h
  obtain rfl := hc.inv_t
  refine ⟨_, .bool !b, rfl, ?_, hk⟩
  rw [nots_eq]; exact .t
theorem neg_fun : Fun1 P negV (fun v => Op.unary .neg v) := by
  intro φ x k h c hc w
  obtain ⟨n, rfl, hk⟩ := onW_true h
  obtain ⟨hn, rfl⟩ := hc.inv_w
  exact ⟨_, _, rfl, RV.mk_w _ _ (by unfold two64; omega), hk⟩


/-! by kind -/
theorem Fun2.imp {f f' : V → V → (V → Bool) → Bool} {g : Value → Value → Sem Value} (h : ∀ x y k, f x y k = true → f' x y k = true) (hf : Fun2 P f' g) : Fun2 P f g :=
  fun φ x y k hk => hf φ x y k (h x y k hk)

theorem addW_fun (t : TypeId) : Fun2 P addW (Go.binOp .add t) := (add_fun P t).imp P fun x y k h => by
  obtain ⟨n, rfl, h1⟩ := onW_true h; obtain ⟨m, rfl, h2⟩ := onW_true h1; exact h2
theorem addY_fun (t : TypeId) : Fun2 P addY (Go.binOp .add t) := (add_fun P t).imp P fun x y k h => by
  obtain ⟨n, rfl, h1⟩ := onY_true h; obtain ⟨m, rfl, h2⟩ := onY_true h1; exact h2
theorem subW_fun (t : TypeId) : Fun2 P subW (Go.binOp .sub t) := (sub_fun P t).imp P fun x y k h => by
  obtain ⟨n, rfl, h1⟩ := onW_true h; obtain ⟨m, rfl, h2⟩ := onW_true h1; exact h2
theorem subY_fun (t : TypeId) : Fun2 P subY (Go.binOp .sub t) := (sub_fun P t).imp P fun x y k h => by
  obtain ⟨n, rfl, h1⟩ := onY_true h; obtain ⟨m, rfl, h2⟩ := onY_true h1; exact h2
theorem lssW_fun (t : TypeId) : Fun2 P lssW (Go.binOp .lss t) := (lss_fun P t).imp P fun x y k h => by
  obtain ⟨n, rfl, h1⟩ := onW_true h; obtain ⟨m, rfl, h2⟩ := onW_true h1; exact h2
theorem lssY_fun (t : TypeId) : Fun2 P lssY (Go.binOp .lss t) := (lss_fun P t).imp P fun x y k h => by
  obtain ⟨n, rfl, h1⟩ := onY_true h; obtain ⟨m, rfl, h2⟩ := onY_true h1; exact h2
theorem leqW_fun (t : TypeId) : Fun2 P leqW (Go.binOp .leq t) := (leq_fun P t).imp P fun x y k h => by
  obtain ⟨n, rfl, h1⟩ := onW_true h; obtain ⟨m, rfl, h2⟩ := onW_true h1; exact h2
theorem leqY_fun (t : TypeId) : Fun2 P leqY (Go.binOp .leq t) := (leq_fun P t).imp P fun x y k h => by
  obtain ⟨n, rfl, h1⟩ := onY_true h; obtain ⟨m, rfl, h2⟩ := onY_true h1; exact h2
theorem gtrW_fun (t : TypeId) : Fun2 P gtrW (Go.binOp .gtr t) := (gtr_fun P t).imp P fun x y k h => by
  obtain ⟨n, rfl, h1⟩ := onW_true h; obtain ⟨m, rfl, h2⟩ := onW_true h1; exact h2
theorem gtrY_fun (t : TypeId) : Fun2 P gtrY (Go.binOp .gtr t) := (gtr_fun P t).imp P fun x y k h => by
  obtain ⟨n, rfl, h1⟩ := onY_true h; obtain ⟨m, rfl, h2⟩ := onY_true h1; exact h2
theorem geqY_fun (t : TypeId) : Fun2 P geqY (Go.binOp .geq t) := (geq_fun P t).imp P fun x y k h => by
  obtain ⟨n, rfl, h1⟩ := onY_true h; obtain ⟨m, rfl, h2⟩ := onY_true h1; exact h2
theorem eqlW_fun (t : TypeId) : Fun2 P eqlW (Go.binOp .eql t) := (eql_fun P t).imp P fun x y k h => by
  obtain ⟨n, rfl, h1⟩ := onW_true h; obtain ⟨m, rfl, h2⟩ := onW_true h1; exact h2
theorem eqlY_fun (t : TypeId) : Fun2 P eqlY (Go.binOp .eql t) := (eql_fun P t).imp P fun x y k h => by
  obtain ⟨n, rfl, h1⟩ := onY_true h; obtain ⟨m, rfl, h2⟩ := onY_true h1; exact h2
theorem eqlS_fun (t : TypeId) : Fun2 P eqlS (Go.binOp .eql t) := (eql_fun P t).imp P fun x y k h => by
  obtain ⟨l, n, rfl, h1⟩ := onS_true h; obtain ⟨l', m, rfl, h2⟩ := onS_true h1; exact h2
theorem neqW_fun (t : TypeId) : Fun2 P neqW (Go.binOp .neq t) := (neq_fun P t).imp P fun x y k h => by
  obtain ⟨n, rfl, h1⟩ := onW_true h; obtain ⟨m, rfl, h2⟩ := onW_true h1; exact h2
theorem neqY_fun (t : TypeId) : Fun2 P neqY (Go.binOp .neq t) := (neq_fun P t).imp P fun x y k h => by
  obtain ⟨n, rfl, h1⟩ := onY_true h; obtain ⟨m, rfl, h2⟩ := onY_true h1; exact h2
theorem neqS_fun (t : TypeId) : Fun2 P neqS (Go.binOp .neq t) := (neq_fun P t).imp P fun x y k h => by
  obtain ⟨l, n, rfl, h1⟩ := onS_true h; obtain ⟨l', m, rfl, h2⟩ := onS_true h1; exact h2

end Go.Bvm
