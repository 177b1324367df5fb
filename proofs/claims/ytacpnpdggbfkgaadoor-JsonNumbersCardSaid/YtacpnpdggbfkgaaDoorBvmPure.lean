/- The abstract machine: numbers, strings, tests: what they come to in the model. Conditions: none. -/
import Derived.Test.YtacpnpdggbfkgaaDoorBvmRel
import Derived.Laws.Sem
import Derived.Laws.World
set_option linter.unusedVariables false
namespace Go.Bvm

theorem RV.inv_w {φ : Phi} {n : Nat} {c : Value} (h : RV φ (.w n) c) : n < 18446744073709551616 ∧ c = .int .i64 ((n : Int) - 9223372036854775808) := by cases h with | w a => exact ⟨a, rfl⟩
theorem RV.inv_y {φ : Phi} {n : Nat} {c : Value} (h : RV φ (.y n) c) : n < 256 ∧ c = .int .u8 (n : Int) := by cases h with | y a => exact ⟨a, rfl⟩
theorem RV.inv_t {φ : Phi} {b : Bool} {c : Value} (h : RV φ (.t b) c) : c = .bool b := by cases h; rfl
theorem RV.inv_s {φ : Phi} {l n : Nat} {c : Value} (h : RV φ (.s l n) c) : ∃ s : ByteArray, c = .string s ∧ s.size = l ∧ pack s.data.toList = n := by cases h with | s a b => exact ⟨_, rfl, a, b⟩
theorem RV.inv_int {φ : Phi} {k : IntKind} {n : Int} {a b : V} {c : Value} (h : RV φ (.x (.int k n) a b) c) : k ≠ .i64 ∧ k ≠ .u8 ∧ c = .int k n := by cases h with | int a b => exact ⟨a, b, rfl⟩
theorem RV.inv_p {φ : Phi} {id off lim ver : Nat} {c : Value} (h : RV φ (.p id off lim ver) c) : ∃ l, φ id ver = some l ∧ lim ≤ l.sz ∧ c = .pointer (some ⟨l.B, l.base + off, none⟩) := by cases h with | p a b => exact ⟨_, a, b, rfl⟩
theorem RV.inv_sl {φ : Phi} {id off len ver esz : Nat} {c : Value} (h : RV φ (.sl id off len ver esz) c) : ∃ l o cap, φ id ver = some l ∧ off + len * esz ≤ l.sz ∧ len ≤ cap ∧ (cap ≠ 0 → o = l.base + off) ∧ l.base + off + cap * esz ≤ l.bsz ∧ c = .slice (some ⟨l.B, o, none⟩) len cap := by
  cases h with | sl a b c d e => exact ⟨_, _, _, a, b, c, d, e, rfl⟩
theorem RV.inv_slnil {φ : Phi} {a b : V} {c : Value} (h : RV φ (.x .slnil a b) c) : c = .slice none 0 0 := by cases h; rfl
theorem RV.mkI {φ : Phi} {k : IntKind} {n : Int} (h : k ≠ .i64) (h' : k ≠ .u8) : RV φ (mkI k n) (.int k n) := .int h h'

theorem wrap_i64 (z : Int) (n : Nat) (h : (n : Int) = (z + 9223372036854775808) % 18446744073709551616) : IntKind.wrap .i64 z = (n : Int) - 9223372036854775808 := by
  rw [show IntKind.wrap .i64 z = if (decide (z % 18446744073709551616 ≥ 9223372036854775808)) = true then z % 18446744073709551616 - 18446744073709551616 else z % 18446744073709551616 from rfl]
  split <;> rename_i h1 <;> simp only [decide_eq_true_eq] at h1 <;> omega
theorem wrap_u8 (z : Int) (n : Nat) (h : (n : Int) = z % 256) : IntKind.wrap .u8 z = (n : Int) := by
  rw [show IntKind.wrap .u8 z = z % 256 from rfl]
  omega

theorem RV.mk_w {φ : Phi} (z : Int) (n : Nat) (h : (n : Int) = (z + 9223372036854775808) % 18446744073709551616) : RV φ (.w n) (.int .i64 (IntKind.wrap .i64 z)) := by
  rw [wrap_i64 z n h]; exact .w (by omega)
theorem RV.mk_y {φ : Phi} (z : Int) (n : Nat) (h : (n : Int) = z % 256) : RV φ (.y n) (.int .u8 (IntKind.wrap .u8 z)) := by
  rw [wrap_u8 z n h]; exact .y (by omega)

theorem bs_true_inv {b : Bool} {x : Bool} (h : bs b x false = true) : b = true ∧ x = true := by cases b <;> simp_all
theorem both_true {b k : Bool} (h : both b k = true) : b = true ∧ k = true := by cases b <;> simp_all [both]
theorem isW_true {v : V} (h : isW v = true) : v = .w (wOf v) := by cases v <;> first | rfl | exact Bool.noConfusion (show false = true from h)
theorem isY_true {v : V} (h : isY v = true) : v = .y (yOf v) := by cases v <;> first | rfl | exact Bool.noConfusion (show false = true from h)
theorem isT_true {v : V} (h : isT v = true) : v = .t (tOf v) := by cases v <;> first | rfl | exact Bool.noConfusion (show false = true from h)
theorem isS_true {v : V} (h : isS v = true) : v = .s (sL v) (sN v) := by cases v <;> first | rfl | exact Bool.noConfusion (show false = true from h)
theorem isP_true {v : V} (h : isP v = true) : v = .p (pI v) (pO v) (pL v) (pV v) := by cases v <;> first | rfl | exact Bool.noConfusion (show false = true from h)
theorem isSl_true {v : V} (h : isSl v = true) : v = .sl (slI v) (slO v) (slL v) (slV v) (slE v) := by cases v <;> first | rfl | exact Bool.noConfusion (show false = true from h)
theorem vtgInt_true {v : V} (h : vtgInt v = true) : v = .x (.int (xK v) (xN v)) (xA v) (xB v) := by
  cases v <;> first | exact Bool.noConfusion (show false = true from h) | skip
  rename_i g a b
  cases g <;> first | rfl | exact Bool.noConfusion (show false = true from h)
theorem vtgAgg_true {v : V} (h : vtgAgg v = true) : v = .x .agg (xA v) (xB v) := by
  cases v <;> first | exact Bool.noConfusion (show false = true from h) | skip
  rename_i g a b
  cases g <;> first | rfl | exact Bool.noConfusion (show false = true from h)
theorem vtgTup_true {v : V} (h : vtgTup v = true) : v = .x .tup (xA v) (xB v) := by
  cases v <;> first | exact Bool.noConfusion (show false = true from h) | skip
  rename_i g a b
  cases g <;> first | rfl | exact Bool.noConfusion (show false = true from h)
theorem vtgSlnil_true {v : V} (h : vtgSlnil v = true) : v = .x .slnil (xA v) (xB v) := by
  cases v <;> first | exact Bool.noConfusion (show false = true from h) | skip
  rename_i g a b
  cases g <;> first | rfl | exact Bool.noConfusion (show false = true from h)
theorem vtagOS_true {v : V} (h : vtagOS v = true) : v = .x .osl (xA v) (xB v) := by
  cases v <;> first | exact Bool.noConfusion (show false = true from h) | skip
  rename_i g a b
  cases g <;> first | rfl | exact Bool.noConfusion (show false = true from h)
theorem vtagNN_true {v : V} (h : vtagNN v = true) : v = .x .nn (xA v) (xB v) := by
  cases v <;> first | exact Bool.noConfusion (show false = true from h) | skip
  rename_i g a b
  cases g <;> first | rfl | exact Bool.noConfusion (show false = true from h)
theorem vtgFn_true {v : V} (h : vtgFn v = true) : v = .x (.func (xF v)) (xA v) (xB v) := by
  cases v <;> first | exact Bool.noConfusion (show false = true from h) | skip
  rename_i g a b
  cases g <;> first | rfl | exact Bool.noConfusion (show false = true from h)

theorem bs_cases {b x y : Bool} (h : bs b x y = true) : b = true ∧ x = true ∨ b = false ∧ y = true := by cases b <;> simp_all

theorem arith_true {fw fy : Nat → Nat → (V → Bool) → Bool} {fz : IntKind → Int → Int → (V → Bool) → Bool} {x y : V} {k : V → Bool} (h : arith fw fy fz x y k = true) :
    (∃ n m, x = .w n ∧ y = .w m ∧ fw n m k = true) ∨ (∃ n m, x = .y n ∧ y = .y m ∧ fy n m k = true) ∨
    (∃ q n m a b a' b', x = .x (.int q n) a b ∧ y = .x (.int q m) a' b' ∧ fz q n m k = true) := by
  rcases bs_cases h with ⟨h1, h2⟩ | ⟨_, h2⟩
  · obtain ⟨h3, h4⟩ := both_true h2
    exact .inl ⟨_, _, isW_true h1, isW_true h3, h4⟩
  · rcases bs_cases h2 with ⟨h3, h4⟩ | ⟨_, h4⟩
    · obtain ⟨h5, h6⟩ := both_true h4
      exact .inr (.inl ⟨_, _, isY_true h3, isY_true h5, h6⟩)
    · obtain ⟨h5, h6⟩ := both_true h4
      obtain ⟨h7, h8⟩ := both_true h6
      obtain ⟨h9, h10⟩ := both_true h8
      have h9 : xK x = xK y := by simpa using h9
      have hy := vtgInt_true h7
      rw [← h9] at hy
      exact .inr (.inr ⟨_, _, _, _, _, _, _, vtgInt_true h5, hy, h10⟩)

theorem onW_true {v : V} {k : Nat → Bool} (h : onW v k = true) : ∃ n, v = .w n ∧ k n = true := by
  cases v <;> first | exact Bool.noConfusion (show false = true from h) | skip
  exact ⟨_, rfl, h⟩
theorem onY_true {v : V} {k : Nat → Bool} (h : onY v k = true) : ∃ n, v = .y n ∧ k n = true := by
  cases v <;> first | exact Bool.noConfusion (show false = true from h) | skip
  exact ⟨_, rfl, h⟩
theorem onT_true {v : V} {k : Bool → Bool} (h : onT v k = true) : ∃ n, v = .t n ∧ k n = true := by
  cases v <;> first | exact Bool.noConfusion (show false = true from h) | skip
  exact ⟨_, rfl, h⟩
theorem onS_true {v : V} {k : Nat → Nat → Bool} (h : onS v k = true) : ∃ l n, v = .s l n ∧ k l n = true := by
  cases v <;> first | exact Bool.noConfusion (show false = true from h) | skip
  exact ⟨_, _, rfl, h⟩
theorem onP_true {v : V} {k : Nat → Nat → Nat → Nat → Bool} (h : onP v k = true) : ∃ a b c d, v = .p a b c d ∧ k a b c d = true := by
  cases v <;> first | exact Bool.noConfusion (show false = true from h) | skip
  exact ⟨_, _, _, _, rfl, h⟩
theorem onAgg_true {v : V} {k : V → Bool} (h : onAgg v k = true) : ∃ l b, v = .x .agg l b ∧ k l = true := by
  cases v <;> first | exact Bool.noConfusion (show false = true from h) | skip
  rename_i g a b
  cases g <;> first | exact Bool.noConfusion (show false = true from h) | skip
  exact ⟨_, _, rfl, h⟩
theorem onTup_true {v : V} {k : V → Bool} (h : onTup v k = true) : ∃ l b, v = .x .tup l b ∧ k l = true := by
  cases v <;> first | exact Bool.noConfusion (show false = true from h) | skip
  rename_i g a b
  cases g <;> first | exact Bool.noConfusion (show false = true from h) | skip
  exact ⟨_, _, rfl, h⟩
theorem onFn_true {v : V} {k : Nat → V → V → Bool} (h : onFn v k = true) : ∃ f a b, v = .x (.func f) a b ∧ k f a b = true := by
  cases v <;> first | exact Bool.noConfusion (show false = true from h) | skip
  rename_i g a b
  cases g <;> first | exact Bool.noConfusion (show false = true from h) | skip
  exact ⟨_, _, _, rfl, h⟩
theorem onI_true {v : V} {k : IntKind → Int → Bool} (h : onI v k = true) : ∃ q n a b, v = .x (.int q n) a b ∧ k q n = true := by
  cases v <;> first | exact Bool.noConfusion (show false = true from h) | skip
  rename_i g a b
  cases g <;> first | exact Bool.noConfusion (show false = true from h) | skip
  exact ⟨_, _, _, _, rfl, h⟩
theorem onSl_true {v : V} {kn : Bool} {k : Nat → Nat → Nat → Nat → Nat → Bool} (h : onSl v kn k = true) :
    (∃ a b, v = .x .slnil a b ∧ kn = true) ∨ (∃ a b c d e, v = .sl a b c d e ∧ k a b c d e = true) := by
  cases v <;> first | exact Bool.noConfusion (show false = true from h) | skip
  · exact .inr ⟨_, _, _, _, _, rfl, h⟩
  · rename_i g a b
    cases g <;> first | exact Bool.noConfusion (show false = true from h) | skip
    exact .inl ⟨_, _, rfl, h⟩
theorem onBk_true {b : Blk} {k : Arr → Nat → Nat → Nat → Nat → Bool → Bool → Bool} (h : onBk b k = true) : ∃ c s v f e x o, b = .bk c s v f e x o ∧ k c s v f e x o = true := by
  cases b <;> first | exact ⟨_, _, _, _, _, _, _, rfl, h⟩ | exact Bool.noConfusion (show false = true from h)
theorem ble_true {a b : Nat} (h : Nat.ble a b = true) : a ≤ b := Nat.le_of_ble_eq_true h
theorem beq_true {a b : Nat} (h : Nat.beq a b = true) : a = b := Nat.eq_of_beq_eq_true h

/-- a function of two values stands for an operation of the model -/
def Fun2 (P : Program) (f : V → V → (V → Bool) → Bool) (g : Value → Value → Sem Value) : Prop :=
  ∀ φ x y k, f x y k = true → ∀ c d, RV φ x c → RV φ y d → ∀ w, ∃ v r, (g c d).run P w = .ok r w ∧ RV φ v r ∧ k v = true
def Fun1 (P : Program) (f : V → (V → Bool) → Bool) (g : Value → Sem Value) : Prop :=
  ∀ φ x k, f x k = true → ∀ c, RV φ x c → ∀ w, ∃ v r, (g c).run P w = .ok r w ∧ RV φ v r ∧ k v = true

variable (P : Program)

theorem intOp_run (op : BinOp) (t : TypeId) (q : IntKind) (n m : Int) (h1 : op ≠ .shl) (h2 : op ≠ .shr) : Go.binOp op t (.int q n) (.int q m) = match op with
    | .add | .sub | .mul => Op.intArith op q n m
    | .quo | .rem => Op.intDiv op q n m
    | .and | .or | .xor | .andNot => Op.intBits op q n m
    | _ => Op.intCmp op n m := by
  unfold Go.binOp
  cases op <;> simp at h1 h2 ⊢

theorem add_fun (t : TypeId) : Fun2 P addV (Go.binOp .add t) := by
  intro φ x y k h c d hc hd w
  rcases arith_true h with ⟨n, m, rfl, rfl, hk⟩ | ⟨n, m, rfl, rfl, hk⟩ | ⟨q, n, m, _, _, _, _, rfl, rfl, hk⟩ <;> clear h
  · obtain ⟨hn, rfl⟩ := hc.inv_w; obtain ⟨hm, rfl⟩ := hd.inv_w
    exact ⟨_, _, rfl, RV.mk_w _ _ (by unfold two64 bias; omega), hk⟩
  · obtain ⟨hn, rfl⟩ := hc.inv_y; obtain ⟨hm, rfl⟩ := hd.inv_y
    exact ⟨_, _, rfl, RV.mk_y _ _ (by omega), hk⟩
  · obtain ⟨h1, h2, rfl⟩ := hc.inv_int; obtain ⟨_, _, rfl⟩ := hd.inv_int
    exact ⟨_, _, by rw [intOp_run _ _ _ _ _ (by simp) (by simp)]; rfl, RV.mkI h1 h2, hk⟩

theorem sub_fun (t : TypeId) : Fun2 P subV (Go.binOp .sub t) := by
  intro φ x y k h c d hc hd w
  rcases arith_true h with ⟨n, m, rfl, rfl, hk⟩ | ⟨n, m, rfl, rfl, hk⟩ | ⟨q, n, m, _, _, _, _, rfl, rfl, hk⟩ <;> clear h
  · obtain ⟨hn, rfl⟩ := hc.inv_w; obtain ⟨hm, rfl⟩ := hd.inv_w
    exact ⟨_, _, rfl, RV.mk_w _ _ (by unfold two64 bias; omega), hk⟩
  · obtain ⟨hn, rfl⟩ := hc.inv_y; obtain ⟨hm, rfl⟩ := hd.inv_y
    exact ⟨_, _, rfl, RV.mk_y _ _ (by omega), hk⟩
  · obtain ⟨h1, h2, rfl⟩ := hc.inv_int; obtain ⟨_, _, rfl⟩ := hd.inv_int
    exact ⟨_, _, by rw [intOp_run _ _ _ _ _ (by simp) (by simp)]; rfl, RV.mkI h1 h2, hk⟩

theorem mul_aux (n m : Nat) : ((((n + bias) * (m + bias) + bias) % two64 : Nat) : Int) = (((n : Int) - 9223372036854775808) * ((m : Int) - 9223372036854775808) + 9223372036854775808) % 18446744073709551616 := by
  unfold two64 bias
  generalize ha : (n : Int) - 9223372036854775808 = a
  generalize hb : (m : Int) - 9223372036854775808 = b
  have e1 : ((n + 9223372036854775808 : Nat) : Int) = a + 18446744073709551616 := by omega
  have e2 : ((m + 9223372036854775808 : Nat) : Int) = b + 18446744073709551616 := by omega
  have e : (((n + 9223372036854775808) * (m + 9223372036854775808) + 9223372036854775808 : Nat) : Int) = (a * b + 9223372036854775808) + 18446744073709551616 * (a + b + 18446744073709551616) := by
    rw [Int.natCast_add, Int.natCast_mul, e1, e2, Int.add_mul, Int.mul_add, Int.mul_add, Int.mul_add, Int.mul_comm a 18446744073709551616]
    omega
  rw [Int.natCast_emod, e]
  omega

theorem onIx_true {φ : Phi} {v : V} {c : Value} {k : Nat → Bool} (h : onIx v k = true) (hc : RV φ v c) : ∃ (q : IntKind) (n : Nat), c = .int q (n : Int) ∧ k n = true := by
  unfold onIx at h
  rcases bs_cases h with ⟨h1, h2⟩ | ⟨_, h2⟩
  · rw [isW_true h1] at h2 hc
    obtain ⟨h3, h4⟩ := both_true (show both (Nat.ble bias (wOf v)) (k (Nat.sub (wOf v) bias)) = true from h2)
    have h3 := ble_true h3
    obtain ⟨hn, rfl⟩ := hc.inv_w
    have e : (wOf v : Int) - 9223372036854775808 = ((Nat.sub (wOf v) bias : Nat) : Int) := by
      show _ = ((wOf v - bias : Nat) : Int)
      unfold bias at h3 ⊢
      omega
    exact ⟨.i64, Nat.sub (wOf v) bias, by rw [e], h4⟩
  · rcases bs_cases h2 with ⟨h1, h3⟩ | ⟨_, h3⟩
    · rw [isY_true h1] at h3 hc
      obtain ⟨hn, rfl⟩ := hc.inv_y
      exact ⟨_, _, rfl, h3⟩
    · obtain ⟨q, n, a, b, rfl, h4⟩ := onI_true h3
      obtain ⟨h5, h6⟩ := both_true h4
      obtain ⟨_, _, rfl⟩ := hc.inv_int
      have h5 : 0 ≤ n := of_decide_eq_true h5
      exact ⟨_, n.toNat, by rw [Int.toNat_of_nonneg h5], h6⟩

theorem shr_fun (t : TypeId) : Fun2 P shrV (Go.binOp .shr t) := by
  intro φ x y k h c d hc hd w
  obtain ⟨yk, b, rfl, h2⟩ := onIx_true h hd
  rcases bs_cases h2 with ⟨h1, h2⟩ | ⟨_, h2⟩
  · rw [isW_true h1] at h2 hc
    obtain ⟨h3, h4⟩ := both_true h2
    have h3 := ble_true h3
    obtain ⟨h5, h6⟩ := both_true (show both (Nat.ble bias (wOf x)) (k (.w (Nat.add (Nat.div (Nat.sub (wOf x) bias) (Nat.pow 2 b)) bias))) = true from h4)
    have h5 := ble_true h5
    obtain ⟨hn, rfl⟩ := hc.inv_w
    refine ⟨_, .int .i64 ((((wOf x - bias) / 2 ^ b : Nat) : Int)), ?_, ?_, h6⟩
    · rw [binOp_shr, shift_shr .i64 yk _ _ (by omega) (by show (b : Int) ≤ 64; omega)]
      show Result.ok _ w = _
      congr 2
      rw [Int.natCast_ediv, Int.natCast_pow]
      congr 1
      unfold bias at h5 ⊢
      omega
    · have hle : (wOf x - bias) / 2 ^ b ≤ wOf x - bias := Nat.div_le_self _ _
      have := RV.w (φ := φ) (n := (wOf x - bias) / 2 ^ b + bias) (by unfold bias at hle ⊢; omega)
      rw [show (((wOf x - bias) / 2 ^ b + bias : Nat) : Int) - 9223372036854775808 = (((wOf x - bias) / 2 ^ b : Nat) : Int) from by unfold bias; omega] at this
      exact this
  · rcases bs_cases h2 with ⟨h1, h2⟩ | ⟨_, h2⟩
    · rw [isY_true h1] at h2 hc
      obtain ⟨h3, h4⟩ := both_true h2
      have h3 := ble_true h3
      obtain ⟨hn, rfl⟩ := hc.inv_y
      refine ⟨_, .int .u8 (((yOf x / 2 ^ b : Nat) : Int)), ?_, ?_, h4⟩
      · rw [binOp_shr, shift_shr .u8 yk _ _ (by omega) (by show (b : Int) ≤ 8; omega)]
        show Result.ok _ w = _
        congr 2
      · have hle : yOf x / 2 ^ b ≤ yOf x := Nat.div_le_self _ _
        exact .y (by show yOf x / 2 ^ b < 256; omega)
    · obtain ⟨q, n, a, a', rfl, h4⟩ := onI_true h2
      obtain ⟨h5, h6⟩ := both_true h4
      obtain ⟨e1, e2, rfl⟩ := hc.inv_int
      have h5 := ble_true h5
      exact ⟨_, _, by rw [binOp_shr, shift_shr q yk _ _ (by omega) (by omega)]; rfl, RV.mkI e1 e2, h6⟩

theorem mul_fun (t : TypeId) : Fun2 P mulV (Go.binOp .mul t) := by
  intro φ x y k h c d hc hd w
  rcases arith_true h with ⟨n, m, rfl, rfl, hk⟩ | ⟨n, m, rfl, rfl, hk⟩ | ⟨q, n, m, _, _, _, _, rfl, rfl, hk⟩ <;> clear h
  · obtain ⟨hn, rfl⟩ := hc.inv_w; obtain ⟨hm, rfl⟩ := hd.inv_w
    exact ⟨_, _, rfl, RV.mk_w _ _ (mul_aux n m), hk⟩
  · obtain ⟨hn, rfl⟩ := hc.inv_y; obtain ⟨hm, rfl⟩ := hd.inv_y
    exact ⟨_, _, rfl, RV.mk_y _ _ (by rw [Int.natCast_emod, Int.natCast_mul]; rfl), hk⟩
  · obtain ⟨h1, h2, rfl⟩ := hc.inv_int; obtain ⟨_, _, rfl⟩ := hd.inv_int
    exact ⟨_, _, by rw [intOp_run _ _ _ _ _ (by simp) (by simp)]; rfl, RV.mkI h1 h2, hk⟩

theorem quo_fun (t : TypeId) : Fun2 P quoV (Go.binOp .quo t) := by
  intro φ x y k h c d hc hd w
  rcases arith_true h with ⟨n, m, rfl, rfl, hk⟩ | ⟨n, m, rfl, rfl, hk⟩ | ⟨q, n, m, _, _, _, _, rfl, rfl, hk⟩ <;> clear h
  · obtain ⟨hn, rfl⟩ := hc.inv_w; obtain ⟨hm, rfl⟩ := hd.inv_w
    obtain ⟨h1, hk⟩ := both_true hk; obtain ⟨h2, hk⟩ := both_true hk
    have h1 := ble_true h1; have h2 := ble_true h2
    unfold bias at h1 h2
    have e : ((n : Int) - 9223372036854775808).tdiv ((m : Int) - 9223372036854775808) = (((n - 9223372036854775808) / (m - 9223372036854775808) : Nat) : Int) := by
      rw [show (n : Int) - 9223372036854775808 = ((n - 9223372036854775808 : Nat) : Int) from by omega, show (m : Int) - 9223372036854775808 = ((m - 9223372036854775808 : Nat) : Int) from by omega]
      exact (Int.ofNat_tdiv _ _).symm
    have hle : (n - 9223372036854775808) / (m - 9223372036854775808) ≤ n - 9223372036854775808 := Nat.div_le_self _ _
    refine ⟨_, .int .i64 (IntKind.wrap .i64 (((n : Int) - 9223372036854775808).tdiv ((m : Int) - 9223372036854775808))), ?_, RV.mk_w _ _ ?_, hk⟩
    · rw [intOp_run _ _ _ _ _ (by simp) (by simp)]
      simp only [Op.intDiv]
      rw [if_neg (by omega)]; rfl
    · rw [e]; unfold bias
      generalize (n - 9223372036854775808) / (m - 9223372036854775808) = d at hle ⊢
      omega
  · obtain ⟨hn, rfl⟩ := hc.inv_y; obtain ⟨hm, rfl⟩ := hd.inv_y
    obtain ⟨h1, hk⟩ := both_true hk
    have h1 := ble_true h1
    have hle : n / m ≤ n := Nat.div_le_self _ _
    refine ⟨_, .int .u8 (IntKind.wrap .u8 ((n : Int).tdiv (m : Int))), ?_, RV.mk_y _ _ ?_, hk⟩
    · rw [intOp_run _ _ _ _ _ (by simp) (by simp)]
      simp only [Op.intDiv]
      rw [if_neg (by omega)]; rfl
    · rw [← Int.ofNat_tdiv]
      generalize n / m = d at hle ⊢
      omega
  · obtain ⟨h1, h2, rfl⟩ := hc.inv_int; obtain ⟨_, _, rfl⟩ := hd.inv_int
    by_cases e : m = 0
    · simp [e] at hk
    · simp [e] at hk
      refine ⟨_, .int q (q.wrap (n.tdiv m)), ?_, RV.mkI h1 h2, hk⟩
      rw [intOp_run _ _ _ _ _ (by simp) (by simp)]
      simp only [Op.intDiv]
      rw [if_neg e]; rfl

theorem rem_fun (t : TypeId) : Fun2 P remV (Go.binOp .rem t) := by
  intro φ x y k h c d hc hd w
  rcases arith_true h with ⟨n, m, rfl, rfl, hk⟩ | ⟨n, m, rfl, rfl, hk⟩ | ⟨q, n, m, _, _, _, _, rfl, rfl, hk⟩ <;> clear h
  · obtain ⟨hn, rfl⟩ := hc.inv_w; obtain ⟨hm, rfl⟩ := hd.inv_w
    obtain ⟨h1, hk⟩ := both_true hk; obtain ⟨h2, hk⟩ := both_true hk
    have h1 := ble_true h1; have h2 := ble_true h2
    unfold bias at h1 h2
    have e : ((n : Int) - 9223372036854775808).tmod ((m : Int) - 9223372036854775808) = (((n - 9223372036854775808) % (m - 9223372036854775808) : Nat) : Int) := by
      rw [show (n : Int) - 9223372036854775808 = ((n - 9223372036854775808 : Nat) : Int) from by omega, show (m : Int) - 9223372036854775808 = ((m - 9223372036854775808 : Nat) : Int) from by omega]
      exact (Int.ofNat_tmod _ _).symm
    have hle : (n - 9223372036854775808) % (m - 9223372036854775808) ≤ n - 9223372036854775808 := Nat.mod_le _ _
    refine ⟨_, .int .i64 (((n : Int) - 9223372036854775808).tmod ((m : Int) - 9223372036854775808)), ?_, ?_, hk⟩
    · rw [intOp_run _ _ _ _ _ (by simp) (by simp)]
      simp only [Op.intDiv]
      rw [if_neg (by omega)]; rfl
    · rw [e]
      have := RV.w (φ := φ) (n := (n - bias) % (m - bias) + bias) (by unfold bias; omega)
      unfold bias at this ⊢
      rw [show (((n - 9223372036854775808) % (m - 9223372036854775808) + 9223372036854775808 : Nat) : Int) - 9223372036854775808 = (((n - 9223372036854775808) % (m - 9223372036854775808) : Nat) : Int) from by omega] at this
      exact this
  · obtain ⟨hn, rfl⟩ := hc.inv_y; obtain ⟨hm, rfl⟩ := hd.inv_y
    obtain ⟨h1, hk⟩ := both_true hk
    have h1 := ble_true h1
    have hle : n % m ≤ n := Nat.mod_le _ _
    refine ⟨_, .int .u8 ((n : Int).tmod (m : Int)), ?_, ?_, hk⟩
    · rw [intOp_run _ _ _ _ _ (by simp) (by simp)]
      simp only [Op.intDiv]
      rw [if_neg (by omega)]; rfl
    · rw [← Int.ofNat_tmod]; exact .y (by omega)
  · obtain ⟨h1, h2, rfl⟩ := hc.inv_int; obtain ⟨_, _, rfl⟩ := hd.inv_int
    by_cases e : m = 0
    · simp [e] at hk
    · simp [e] at hk
      refine ⟨_, .int q (n.tmod m), ?_, RV.mkI h1 h2, hk⟩
      rw [intOp_run _ _ _ _ _ (by simp) (by simp)]
      simp only [Op.intDiv]
      rw [if_neg e]; rfl
end Go.Bvm
