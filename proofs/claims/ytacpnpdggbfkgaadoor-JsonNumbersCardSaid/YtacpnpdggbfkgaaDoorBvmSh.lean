/- The abstract machine: a function that tells the shape of a node from the shapes of those ahead of it, taken as one step. Conditions: stated in each theorem. -/
import Derived.Test.YtacpnpdggbfkgaaDoorBvmExt
set_option linter.unusedVariables false
namespace Go.Bvm
open Go.RowKit (Below)
variable {P : Program} {G : Nat → Bool}

def uptoS {α : Type} (f : Nat → α) (k : Nat) : List α := (List.range k).map f
theorem uptoS_succ {α : Type} (f : Nat → α) (k : Nat) : uptoS f (k + 1) = uptoS f k ++ [f k] := by simp [uptoS, List.range_succ]
theorem uptoS_length {α : Type} (f : Nat → α) (k : Nat) : (uptoS f k).length = k := by simp [uptoS]

def backF (len : Nat) (z : Nat → Int) (j : Nat) : Nat × Int := (len - 1 - j, z (len - 1 - j))

/-- the slice value holds these ints -/
def IntsAt (W : World) (b : Nat) (sv : Value) (len : Nat) (z : Nat → Int) : Prop :=
  (sv = .slice none 0 0 ∧ len = 0) ∨ ∃ off cap, sv = .slice (some ⟨b, off, none⟩) len cap ∧ ∀ j, j < len → W.cell? ⟨b, off + j, none⟩ = some (.int .i64 (z j))

/-- the shape after some parts: size and depth; none: a part does not stand as it should -/
def shStep (i : Int) (aS aD : Nat → Int) (x : Option (Int × Int)) (v : Int) : Option (Int × Int) := match x with
  | some (sz, dp) => if 0 ≤ v ∧ v = i - sz then some (sz + aS v.toNat, max dp (aD v.toNat)) else none
  | none => none
def shSt (i : Int) (aS aD : Nat → Int) (vs : List (Nat × Int)) : Option (Int × Int) := (vs.map (·.2)).foldl (shStep i aS aD) (some (1, 0))

theorem shSt_snoc (i : Int) (aS aD : Nat → Int) (pre : List (Nat × Int)) (x : Nat × Int) : shSt i aS aD (pre ++ [x]) = shStep i aS aD (shSt i aS aD pre) x.2 := by
  simp [shSt, List.foldl_append]

/-- what is handed back -/
def ShOut (i : Nat) (kind : Int) (aS aD : Nat → Int) (len : Nat) (z : Nat → Int) (sz dp : Int) (ok : Bool) : Prop :=
  (∃ d, shSt i aS aD (uptoS (backF len z) len) = some (sz, d) ∧ dp = (if 6 ≤ kind then d + 1 else d) ∧ ok = decide (dp ≤ 8)) ∨
  (ok = false ∧ ∃ k, k < len ∧ shSt i aS aD (uptoS (backF len z) k) = some (sz, dp) ∧ ¬ (0 ≤ z (len - 1 - k) ∧ z (len - 1 - k) = i - sz))

/-- the function's contract -/
def ShC (P : Program) (f : Nat) : Prop := ∀ (gd : Nat → Prop) (lB lo llen lcap aB ao : Nat) (aA : Option Addr) (alen acap : Nat), (0 < alen → aA = some ⟨aB, ao, none⟩) → ∀ (i : Nat) (kind : Int) (sa : Option Addr) (slen scap pB len : Nat) (z : Nat → Int) (aS aD : Nat → Int) (w : World),
    lB < w.heap.size → aB < w.heap.size → pB < w.heap.size → i < llen → i ≤ 1000000000 →
    w.cell? ⟨lB, lo + i * 5, none⟩ = some (.int .i64 kind) → w.cell? ⟨lB, lo + i * 5 + 4, none⟩ = some (.slice sa slen scap) →
    len * 8 ≤ 140737488351232 → IntsAt w pB (.slice sa slen scap) len z →
    (∀ j, j < alen → gd j → w.cell? ⟨aB, ao + j * 2, none⟩ = some (.int .i64 (aS j)) ∧ w.cell? ⟨aB, ao + j * 2 + 1, none⟩ = some (.int .i64 (aD j))) →
    (∀ pre : List (Nat × Int), pre.length < len → ∀ sz dp, shSt i aS aD pre = some (sz, dp) → 0 ≤ (i : Int) - sz →
      ((i : Int) - sz).toNat < alen ∧ 1 ≤ aS ((i : Int) - sz).toNat ∧ aS ((i : Int) - sz).toNat ≤ 1000000000 ∧ 0 ≤ aD ((i : Int) - sz).toNat ∧ aD ((i : Int) - sz).toNat ≤ 1000000000 ∧ gd ((i : Int) - sz).toNat) →
    Calls P f #[.slice (some ⟨lB, lo, none⟩) llen lcap, .slice aA alen acap, .int .i64 i] w fun e W' => ∃ sz dp ok, e = .returned (.tuple #[.agg #[.int .i64 sz, .int .i64 dp], .bool ok]) ∧ ShOut i kind aS aD len z sz dp ok ∧ Below w.heap.size w W'

noncomputable section
/-- a slice's block: where it begins there, how long it is -/
def onArr (es : Nat) (s : V) (h : H) (f : Nat → Nat → Arr → Bool) : Bool := onSl s (f 0 0 (.a1 z1)) fun id off len ver e => both (Nat.beq e es) (onBk (hget id h.tr) fun c _ bver _ _ _ _ => both (Nat.beq ver bver) (f off len c))
/-- a part's shape -/
def shAt (ao alen : Nat) (c : Arr) (m : Nat) (k : Nat → Nat → Bool) : Bool :=
  both (Nat.ble (Nat.succ m) alen) (onW (aget (Nat.add ao (Nat.mul m 2)) c) fun s => onW (aget (Nat.succ (Nat.add ao (Nat.mul m 2))) c) fun d =>
    both (Nat.ble (Nat.succ bias) s) (both (Nat.ble s (Nat.add bias 1000000000)) (both (Nat.ble bias d) (both (Nat.ble d (Nat.add bias 1000000000)) (k (Nat.sub s bias) (Nat.sub d bias))))))
/-- are all shapes that may be looked at good ones? -/
def shChk (ao alen : Nat) (c : Arr) (i : Nat) : (n sz : Nat) → Bool := Nat.rec (motive := fun _ => Nat → Bool) (fun _ => true) (fun _ ih sz => bs (Nat.ble sz i) (shAt ao alen c (Nat.sub i sz) fun s _ => ih (Nat.add sz s)) true)
def shLoop (ao alen : Nat) (c : Arr) (i po : Nat) (pc : Arr) (k : Nat → Nat → Bool → Bool) : (n sz dp : Nat) → Bool := Nat.rec (motive := fun _ => Nat → Nat → Bool) (fun sz dp => k sz dp true)
  (fun n ih sz dp => onW (aget (Nat.add po n) pc) fun v => bs (both (Nat.ble sz i) (Nat.beq v (Nat.add bias (Nat.sub i sz)))) (shAt ao alen c (Nat.sub i sz) fun s d => ih (Nat.add sz s) (bs (Nat.ble dp d) d dp)) (k sz dp false))
def shRes (sz dp : Nat) (ok : Bool) : V := .x .tup (.x .cons (.x .agg (.x .cons (.w (Nat.add bias sz)) (.x .cons (.w (Nat.add bias dp)) V.nil)) V.nil) (.x .cons (.t ok) V.nil)) V.nil
def shFin (kind : Nat) (k : V → Bool) (sz dp : Nat) (go : Bool) : Bool :=
  both (Nat.ble sz 1000000000000) (both (Nat.ble dp 1000000000000) (bs go (bs (Nat.ble (Nat.add bias 6) kind) (k (shRes sz (Nat.succ dp) (Nat.ble (Nat.succ dp) 8))) (k (shRes sz dp (Nat.ble dp 8)))) (k (shRes sz dp false))))
def shWs (po : Nat) (pc : Arr) : Nat → Bool := Nat.rec (motive := fun _ => Bool) true (fun n ih => onW (aget (Nat.add po n) pc) fun _ => ih)
def shRest (ao al : Nat) (ac : Arr) (i kd po pl : Nat) (pc : Arr) (k : V → Bool) : Bool :=
  both (Nat.ble pl 4096) (both (shWs po pc pl) (both (shChk ao al ac i pl 1) (shLoop ao al ac i po pc (shFin kd k) pl 1 0)))
def extSh (l : V) (h : H) (k : KV) : Bool := onCons l fun a r => onCons r fun b r => onCons r fun x r => onNil r (onW x fun m => both (Nat.ble bias m) (both (Nat.ble m (Nat.add bias 1000000000))
  (onArr 5 a h fun lo ll lc => both (Nat.ble (Nat.succ (Nat.sub m bias)) ll) (onArr 2 b h fun ao al ac => onW (aget (Nat.add lo (Nat.mul (Nat.sub m bias) 5)) lc) fun kd => onArr 1 (aget (Nat.add (Nat.add lo (Nat.mul (Nat.sub m bias) 5)) 4) lc) h fun po pl pc =>
    shRest ao al ac (Nat.sub m bias) kd po pl pc fun v => k v h))))
end

theorem onArr_true {es : Nat} {s : V} {h : H} {f : Nat → Nat → Arr → Bool} (hm : onArr es s h f = true) {φ : Phi} {v : Value} {w : World} (r : RV φ s v) (R : Rel φ h w) :
    ∃ off len c, f off len c = true ∧ ((v = .slice none 0 0 ∧ len = 0) ∨ ∃ B o base cap, v = .slice (some ⟨B, o, none⟩) len cap ∧ B < w.heap.size ∧ (0 < len → o = base + off) ∧ ∀ j, j < off + len * es → ∃ v, w.cell? ⟨B, base + j, none⟩ = some v ∧ RV φ (aget j c) v) := by
  unfold onArr at hm
  cases r with
  | sl h1 h2 h3 h4 h5 =>
    rename_i id off len ver esz o cap l
    obtain ⟨g1, g2⟩ := both_true hm
    obtain rfl := beq_true g1
    obtain ⟨c, size, bver, frz, elem, ex, own, e2, g3⟩ := onBk_true g2
    obtain ⟨g4, g5⟩ := both_true g3
    obtain rfl := beq_true g4
    refine ⟨_, _, _, g5, .inr ⟨l.B, o, l.base, cap, rfl, (R.dom _ _ _ h1).2.1, fun hl => h4 (by omega), fun j hj => ?_⟩⟩
    obtain ⟨v, hv, rv, _⟩ := R.cell h1 e2 (i := j) (by omega)
    exact ⟨v, hv, rv⟩
  | slnil => exact ⟨_, _, _, hm, .inl ⟨rfl, rfl⟩⟩
  | _ => exact Bool.noConfusion (show false = true from hm)

theorem frm_onArr {α : Type} {r : Nat} {h : H} (hk : Kept r h) {es : Nat} {s : V} {f : Nat → Nat → Arr → H → (α → H → Bool) → Bool} (hf : ∀ a b c, FrmAt r (f a b c) h) : FrmAt r (fun h k => onArr es s h fun a b c => f a b c h k) h := by
  unfold onArr
  exact .onSl (hf _ _ _) fun id off len ver e => .both (c := fun _ => Nat.beq e es) (fun _ => rfl) fun _ => .onBk hk fun c s v g z x o _ => .both (c := fun _ => Nat.beq ver v) (fun _ => rfl) fun _ => hf _ _ _
theorem ret_onArr {α : Type} {h : H} {es : Nat} {s : V} {f : Nat → Nat → Arr → (α → Bool) → Bool} (hf : ∀ a b c, RetG (f a b c)) : RetG (fun k => onArr es s h fun a b c => f a b c k) := by
  unfold onArr
  exact .onSl (hf _ _ _) fun id off len ver e => .both (.onBk fun c s v g z x o => .both (hf _ _ _))

theorem shAt_ret {α : Type} {ao alen : Nat} {c : Arr} {m : Nat} {f : Nat → Nat → (α → Bool) → Bool} (hf : ∀ s d, RetG (f s d)) : RetG (fun k => shAt ao alen c m fun s d => f s d k) := by
  unfold shAt
  exact .both (.onW fun s => .onW fun d => .both (.both (.both (.both (hf _ _)))))
theorem shFin_ret {kd sz dp : Nat} {go : Bool} : RetG (fun k => shFin kd k sz dp go) := .both (.both (.bs (.bs (.k _) (.k _)) (.k _)))
theorem shLoop_ret {ao alen : Nat} {c : Arr} {i po : Nat} {pc : Arr} {kd : Nat} : ∀ n sz dp : Nat, RetG (fun k => shLoop ao alen c i po pc (shFin kd k) n sz dp)
  | 0, sz, dp => shFin_ret
  | n + 1, sz, dp => .onW fun v => .bs (shAt_ret fun s d => shLoop_ret n _ _) shFin_ret
theorem shRest_ret {ao al : Nat} {ac : Arr} {i kd po pl : Nat} {pc : Arr} : RetG (shRest ao al ac i kd po pl pc) := .both (.both (.both (shLoop_ret _ _ _)))

/-- what stands at a place, as a number -/
noncomputable def aS (ao : Nat) (c : Arr) (j : Nat) : Int := (wOf (aget (ao + j * 2) c) : Int) - bias
noncomputable def aD (ao : Nat) (c : Arr) (j : Nat) : Int := (wOf (aget (ao + j * 2 + 1) c) : Int) - bias
def gdAt (ao : Nat) (c : Arr) (j : Nat) : Prop := (∃ n, aget (ao + j * 2) c = .w n) ∧ ∃ n, aget (ao + j * 2 + 1) c = .w n

theorem shAt_true {ao alen : Nat} {c : Arr} {m : Nat} {k : Nat → Nat → Bool} (h : shAt ao alen c m k = true) : m < alen ∧ gdAt ao c m ∧ ∃ s d : Nat, k s d = true ∧ aS ao c m = s ∧ aD ao c m = d ∧ 1 ≤ s ∧ s ≤ 1000000000 ∧ d ≤ 1000000000 := by
  obtain ⟨h1, h2⟩ := both_true h
  obtain ⟨s, e1, h3⟩ := onW_true h2
  obtain ⟨d, e2, h4⟩ := onW_true h3
  obtain ⟨h5, h6⟩ := both_true h4
  obtain ⟨h7, h8⟩ := both_true h6
  obtain ⟨h9, h10⟩ := both_true h8
  obtain ⟨h11, h12⟩ := both_true h10
  have h5 := ble_true h5; have h7 := ble_true h7; have h9 := ble_true h9; have h11 := ble_true h11
  have e1 : aget (ao + m * 2) c = .w s := e1
  have e2 : aget (ao + m * 2 + 1) c = .w d := e2
  simp only [Nat.add_eq, Nat.succ_eq_add_one] at h5 h7 h9 h11
  refine ⟨by have := ble_true h1; omega, ⟨⟨_, e1⟩, ⟨_, e2⟩⟩, s - bias, d - bias, h12, ?_, ?_, by omega, by omega, by omega⟩
  · unfold aS; rw [e1]; show ((s : Nat) : Int) - (bias : Nat) = _; omega
  · unfold aD; rw [e2]; show ((d : Nat) : Int) - (bias : Nat) = _; omega

theorem fold_none {i : Int} {S D : Nat → Int} : ∀ vs : List Int, vs.foldl (shStep i S D) none = none
  | [] => rfl
  | v :: vs => by rw [List.foldl_cons]; exact fold_none vs

theorem shChk_ok {ao alen : Nat} {c : Arr} {i : Nat} : ∀ (vs : List Int) (n : Nat) (sz0 : Nat) (dp0 sz dp : Int), shChk ao alen c i n sz0 = true → vs.length < n → vs.foldl (shStep i (aS ao c) (aD ao c)) (some ((sz0 : Int), dp0)) = some (sz, dp) → 0 ≤ (i : Int) - sz →
    ((i : Int) - sz).toNat < alen ∧ 1 ≤ aS ao c ((i : Int) - sz).toNat ∧ aS ao c ((i : Int) - sz).toNat ≤ 1000000000 ∧ 0 ≤ aD ao c ((i : Int) - sz).toNat ∧ aD ao c ((i : Int) - sz).toNat ≤ 1000000000 ∧ gdAt ao c ((i : Int) - sz).toNat
  | _, 0, _, _, _, _, _, hl, _, _ => absurd hl (by omega)
  | [], n + 1, sz0, dp0, sz, dp, hc, _, hf, hi => by
    simp only [List.foldl_nil, Option.some.injEq, Prod.mk.injEq] at hf
    obtain ⟨rfl, rfl⟩ := hf
    have hc : bs (Nat.ble sz0 i) (shAt ao alen c (Nat.sub i sz0) fun s _ => shChk ao alen c i n (Nat.add sz0 s)) true = true := hc
    rw [show Nat.ble sz0 i = true from Nat.ble_eq_true_of_le (by omega), bs_true] at hc
    obtain ⟨h1, h2, s, d, _, h3, h4, h5, h6, h7⟩ := shAt_true hc
    have e : ((i : Int) - sz0).toNat = Nat.sub i sz0 := by show _ = i - sz0; omega
    rw [e, h3, h4]
    exact ⟨h1, by omega, by omega, by omega, by omega, h2⟩
  | v :: vs, n + 1, sz0, dp0, sz, dp, hc, hl, hf, hi => by
    rw [List.foldl_cons] at hf
    simp only [shStep] at hf
    split at hf
    · rename_i hv
      have hc : bs (Nat.ble sz0 i) (shAt ao alen c (Nat.sub i sz0) fun s _ => shChk ao alen c i n (Nat.add sz0 s)) true = true := hc
      rw [show Nat.ble sz0 i = true from Nat.ble_eq_true_of_le (by omega), bs_true] at hc
      obtain ⟨h1, h2, s, d, h8, h3, h4, h5, h6, h7⟩ := shAt_true hc
      have e : v.toNat = Nat.sub i sz0 := by show _ = i - sz0; omega
      rw [e, h3] at hf
      exact shChk_ok vs n (sz0 + s) _ sz dp h8 (by simpa using hl) (by rw [Int.natCast_add]; exact hf) hi
    · rw [fold_none] at hf; simp at hf

/-- some so far: some ahead; and the step that is not taken -/
theorem shSt_prev {i : Int} {S D : Nat → Int} {f : Nat → Nat × Int} : ∀ (m k : Nat), k ≤ m → (∃ x, shSt i S D (uptoS f m) = some x) → ∃ x, shSt i S D (uptoS f k) = some x
  | 0, k, hk, h => by rw [Nat.le_zero.1 hk]; exact h
  | m + 1, k, hk, h => by
    by_cases e : k = m + 1
    · rw [e]; exact h
    · refine shSt_prev m k (by omega) ?_
      rw [uptoS_succ, shSt_snoc] at h
      cases hq : shSt i S D (uptoS f m) with
      | none => rw [hq] at h; obtain ⟨x, h⟩ := h; simp [shStep] at h
      | some x => exact ⟨x, rfl⟩
theorem shSt_step {i : Int} {S D : Nat → Int} {f : Nat → Nat × Int} {k : Nat} {sz dp : Int} (h : shSt i S D (uptoS f k) = some (sz, dp)) (hn : ¬ (0 ≤ (f k).2 ∧ (f k).2 = i - sz)) : shSt i S D (uptoS f (k + 1)) = none := by
  rw [uptoS_succ, shSt_snoc, h]
  simp only [shStep]
  rw [if_neg hn]

theorem shFin_true {kind : Nat} {k : V → Bool} {sz dp : Nat} {go : Bool} (h : shFin kind k sz dp go = true) : sz ≤ 1000000000000 ∧ dp ≤ 1000000000000 ∧ ((go = true ∧ ∃ d, d = (if bias + 6 ≤ kind then dp + 1 else dp) ∧ k (shRes sz d (decide (d ≤ 8))) = true) ∨ (go = false ∧ k (shRes sz dp false) = true)) := by
  obtain ⟨h1, h2⟩ := both_true h
  obtain ⟨h3, h4⟩ := both_true h2
  refine ⟨ble_true h1, ble_true h3, ?_⟩
  have hb : ∀ d : Nat, Nat.ble d 8 = decide (d ≤ 8) := fun d => by
    by_cases h : d ≤ 8
    · rw [Nat.ble_eq_true_of_le h]; simp [h]
    · cases hq : Nat.ble d 8 with
      | true => exact absurd (ble_true hq) h
      | false => simp [h]
  cases go with
  | true =>
    rw [bs_true] at h4
    refine .inl ⟨rfl, _, rfl, ?_⟩
    split
    · rename_i hq
      rw [show Nat.ble (Nat.add bias 6) kind = true from Nat.ble_eq_true_of_le hq, bs_true] at h4
      rw [← hb]; exact h4
    · rename_i hq
      have : Nat.ble (Nat.add bias 6) kind = false := by
        cases hz : Nat.ble (Nat.add bias 6) kind with
        | true => exact absurd (ble_true hz) hq
        | false => rfl
      rw [this, bs_false] at h4
      rw [← hb]; exact h4
  | false => exact .inr ⟨rfl, h4⟩

theorem shLoop_ok {ao alen : Nat} {c : Arr} {i po : Nat} {pc : Arr} {kd : Nat} {k : V → Bool} {len : Nat} {z : Nat → Int} (hz : ∀ j n, j < len → aget (po + j) pc = .w n → z j = (n : Int) - bias) {SZ DP : Int} {OK : Bool}
    (ho : ShOut i ((kd : Int) - bias) (aS ao c) (aD ao c) len z SZ DP OK) :
    ∀ (n sz dp : Nat), n ≤ len → shSt i (aS ao c) (aD ao c) (uptoS (backF len z) (len - n)) = some ((sz : Int), (dp : Int)) → shLoop ao alen c i po pc (shFin kd k) n sz dp = true →
      ∃ s d : Nat, SZ = s ∧ DP = d ∧ s ≤ 1000000000000 ∧ d ≤ 1000000000001 ∧ k (shRes s d OK) = true
  | 0, sz, dp, _, hst, hm => by
    rw [Nat.sub_zero] at hst
    obtain ⟨b1, b2, ⟨_, d, hd, h3⟩ | ⟨h2, _⟩⟩ := shFin_true hm
    · rcases ho with ⟨d', e1, e2, e3⟩ | ⟨_, q, hq, e1, e2⟩
      · rw [hst] at e1
        simp only [Option.some.injEq, Prod.mk.injEq] at e1
        obtain ⟨rfl, rfl⟩ := e1
        have hDP : DP = (d : Int) := by
          rw [e2, hd]
          by_cases h6 : bias + 6 ≤ kd
          · rw [if_pos h6, if_pos (by omega)]; omega
          · rw [if_neg h6, if_neg (by omega)]
        refine ⟨sz, d, rfl, hDP, b1, ?_, ?_⟩
        · rw [hd]; split <;> omega
        · rw [e3, hDP]
          have : decide ((d : Int) ≤ 8) = decide (d ≤ 8) := by simp only [decide_eq_decide]; omega
          rw [this]; exact h3
      · have := shSt_step (f := backF len z) e1 e2
        obtain ⟨x, hx⟩ := shSt_prev len (q + 1) (by omega) ⟨_, hst⟩
        rw [this] at hx; simp at hx
    · simp at h2
  | n + 1, sz, dp, hn, hst, hm => by
    have hm : onW (aget (Nat.add po n) pc) (fun v => bs (both (Nat.ble sz i) (Nat.beq v (Nat.add bias (Nat.sub i sz)))) (shAt ao alen c (Nat.sub i sz) fun s d => shLoop ao alen c i po pc (shFin kd k) n (Nat.add sz s) (bs (Nat.ble dp d) d dp)) (shFin kd k sz dp false)) = true := hm
    obtain ⟨v, ev, hm⟩ := onW_true hm
    have hzn : z n = (v : Int) - bias := hz n v (by omega) ev
    have hlen : len - n = (len - (n + 1)) + 1 := by omega
    have hbk : backF len z (len - (n + 1)) = (n, z n) := by unfold backF; rw [show len - 1 - (len - (n + 1)) = n from by omega]
    cases hb : both (Nat.ble sz i) (Nat.beq v (Nat.add bias (Nat.sub i sz))) with
    | true =>
      obtain ⟨g1, g2⟩ := both_true hb
      have g1 := ble_true g1; have g2 := beq_true g2
      rw [hb, bs_true] at hm
      obtain ⟨h1, h2, s, d, h8, h3, h4, h5, h6, h7⟩ := shAt_true hm
      have g2 : v = bias + (i - sz) := g2
      refine shLoop_ok hz ho n _ _ (by omega) ?_ h8
      rw [hlen, uptoS_succ, shSt_snoc, hst, hbk]
      simp only [shStep]
      have e : (z n).toNat = Nat.sub i sz := by rw [hzn]; show _ = i - sz; omega
      rw [if_pos ⟨by omega, by omega⟩, e, h3, h4]
      simp only [Option.some.injEq, Prod.mk.injEq]
      refine ⟨by simp, ?_⟩
      cases hq : Nat.ble dp d with
      | true => have := ble_true hq; rw [bs_true]; omega
      | false =>
        have : ¬ dp ≤ d := fun h => by rw [Nat.ble_eq_true_of_le h] at hq; simp at hq
        rw [bs_false]; omega
    | false =>
      rw [hb, bs_false] at hm
      have hne : ¬ (0 ≤ (backF len z (len - (n + 1))).2 ∧ (backF len z (len - (n + 1))).2 = (i : Int) - sz) := by
        rw [hbk]
        rintro ⟨q1, q2⟩
        dsimp only at q1 q2
        rw [hzn] at q1 q2
        have a1 : Nat.ble sz i = true := Nat.ble_eq_true_of_le (by omega)
        have a2 : v = Nat.add bias (Nat.sub i sz) := by show v = bias + (i - sz); omega
        rw [a1, ← a2] at hb
        simp [both] at hb
      have hnone := shSt_step hst hne
      obtain ⟨b1, b2, ⟨h2, _⟩ | ⟨_, h3⟩⟩ := shFin_true hm
      · simp at h2
      · rcases ho with ⟨d', e1, e2, e3⟩ | ⟨hok, q, hq, e1, e2⟩
        · obtain ⟨x, hx⟩ := shSt_prev len (len - (n + 1) + 1) (by omega) ⟨_, e1⟩
          rw [hnone] at hx; simp at hx
        · have h4 := shSt_step (f := backF len z) e1 e2
          have hq : q = len - (n + 1) := by
            rcases Nat.lt_trichotomy q (len - (n + 1)) with h | h | h
            · obtain ⟨x, hx⟩ := shSt_prev (len - (n + 1)) (q + 1) (by omega) ⟨_, hst⟩
              rw [h4] at hx; simp at hx
            · exact h
            · obtain ⟨x, hx⟩ := shSt_prev q (len - (n + 1) + 1) (by omega) ⟨_, e1⟩
              rw [hnone] at hx; simp at hx
          rw [hq, hst] at e1
          simp only [Option.some.injEq, Prod.mk.injEq] at e1
          exact ⟨sz, dp, e1.1.symm, e1.2.symm, b1, by omega, by rw [hok]; exact h3⟩

/-- what lies below all blocks of the run stays -/
theorem Rel.belowW {φ : Phi} {h : H} {w w' : World} (R : Rel φ h w) (hB : Below w.heap.size w w') : Rel φ h w' ∧ Ext φ h w φ h w' := by
  have hk : ∀ (b : Blk) (id : Nat), BlkOk φ w id b → BlkOk φ w' id b := fun b id hb => by
    cases b with
    | nb => trivial
    | bk c size ver frz elem ex own =>
      obtain ⟨l, cs, fr, h1, h2, h3, h4⟩ := hb
      exact ⟨l, cs, fr, h1, h2, (hB.block _ (R.dom _ _ _ h1).2.1).trans h3, h4⟩
    | mp kv =>
      obtain ⟨l, es, clock, h1, h2, h3, h4⟩ := hb
      exact ⟨l, es, clock, h1, h2, (hB.block _ (R.dom _ _ _ h1).2.1).trans h3, h4⟩
    | pin p q r =>
      obtain ⟨l, el, fr, h1, h2, h3, h4⟩ := hb
      exact ⟨l, el, fr, h1, h2, (hB.block _ (R.dom _ _ _ h1).2.1).trans h3, h4⟩
    | it n r pos =>
      obtain ⟨l, s, h1, h2, h3, h4⟩ := hb
      exact ⟨l, s, h1, h2, (hB.block _ (R.dom _ _ _ h1).2.1).trans h3, h4⟩
  exact ⟨⟨R.next, fun id v l e => let ⟨a, b, c⟩ := R.dom id v l e; ⟨a, Nat.lt_of_lt_of_le b hB.size, c⟩, fun id hi => hk _ _ (R.blk id hi), R.apart⟩,
    ⟨φ.le_refl, hB.os, hB.tape, hB.output, hB.size, Nat.le_refl _, fun _ _ h => h, fun _ _ h => h, fun B hb _ => hB.block B hb, fun _ _ h => ⟨h, fun _ => rfl⟩⟩⟩

theorem shWs_ok {po : Nat} {pc : Arr} : ∀ n, shWs po pc n = true → ∀ j, j < n → ∃ m, aget (po + j) pc = .w m
  | 0, _, j, hj => absurd hj (by omega)
  | n + 1, h, j, hj => by
    have h : onW (aget (Nat.add po n) pc) (fun _ => shWs po pc n) = true := h
    obtain ⟨m, e, h⟩ := onW_true h
    by_cases q : j = n
    · rw [q]; exact ⟨m, e⟩
    · exact shWs_ok n h j (by omega)

theorem FrmAt.onCons {α : Type} {r : Nat} {h : H} {v : V} {f : V → V → H → (α → H → Bool) → Bool} (hf : ∀ a b, FrmAt r (f a b) h) : FrmAt r (fun h k => Bvm.onCons v fun a b => f a b h k) h := by
  cases v with
  | x t a b => cases t <;> first | exact .no | exact hf _ _
  | _ => exact .no
theorem FrmAt.onNil {α : Type} {r : Nat} {h : H} {v : V} {f : H → (α → H → Bool) → Bool} (hf : FrmAt r f h) : FrmAt r (fun h k => Bvm.onNil v (f h k)) h := by
  cases v with
  | x t a b => cases t <;> first | exact .no | exact hf
  | _ => exact .no

theorem RV.natW {φ : Phi} {n : Nat} (h : n ≤ 1000000000001) : RV φ (.w (Nat.add bias n)) (.int .i64 (n : Int)) := by
  have := RV.w (φ := φ) (n := bias + n) (by unfold bias; omega)
  have e : ((bias + n : Nat) : Int) - 9223372036854775808 = (n : Int) := by unfold bias; omega
  rw [e] at this
  exact this

theorem enters_call {f : Nat} {fn : Func} (hf : P.funcs[f]? = some fn) (hname : (fn.name == "runtime.NumGoroutine") = false) (hb : fn.body.isNone = false) (args : Array Value) (w : World) : (callFunc f args).run P w = .ok (.enter f args) w := by
  unfold callFunc
  rw [Sem.run_bind, run_program]
  simp only [Result.andThen_ok, hf]
  rw [if_neg (by rw [hname]; simp), if_neg (by rw [hb]; simp)]
  rfl

theorem EntOk.sh {f : Nat} (hent : ∀ (args : Array Value) (w : World), (callFunc f args).run P w = .ok (.enter f args) w) (hC : ShC P f) : EntOk P G f (fun _ => extSh) where
  ok := fun cf _ _ _ l h k hm φ w args hg hl R => by
    obtain ⟨a, r, h1, hm1⟩ := onCons_true hm
    rw [h1] at hl
    cases hl with
    | cons ha hr =>
    obtain ⟨b, r', h2, hm2⟩ := onCons_true hm1
    rw [h2] at hr
    cases hr with
    | @cons _ _ bv _ hb hr =>
    obtain ⟨x, r'', h3, hm3⟩ := onCons_true hm2
    rw [h3] at hr
    cases hr with
    | cons hx hr =>
    obtain ⟨_, _, h4, hm4⟩ := onNil_true hm3
    rw [h4] at hr
    cases hr
    obtain ⟨m, e1, hm5⟩ := onW_true hm4
    rw [e1] at hx
    obtain ⟨_, rfl⟩ := hx.inv_w
    obtain ⟨h5, hm6⟩ := both_true hm5
    obtain ⟨h6, hm7⟩ := both_true hm6
    have h5 := ble_true h5; have h6 := ble_true h6
    obtain ⟨i, hi⟩ : ∃ i, i = Nat.sub m bias := ⟨_, rfl⟩
    have e2 : (m : Int) - 9223372036854775808 = (i : Int) := by
      rw [hi]; show _ = ((m - bias : Nat) : Int)
      unfold bias at h5 ⊢; omega
    rw [e2]
    rw [← hi] at hm7
    have hi9 : i ≤ 1000000000 := by rw [hi]; show m - bias ≤ _; simp only [Nat.add_eq] at h6; omega
    obtain ⟨lo, ll, lc, hm8, hL⟩ := onArr_true hm7 ha R
    obtain ⟨h7, hm9⟩ := both_true hm8
    have h7 := ble_true h7
    have h7 : i < ll := h7
    obtain ⟨ao, al, ac, hm10, hA⟩ := onArr_true hm9 hb R
    obtain ⟨kd, e3, hm11⟩ := onW_true hm10
    rcases hL with ⟨_, hL0⟩ | ⟨lB, lO, lbase, lcap, rfl, hlB, hlo, hlc⟩
    · omega
    have hlo := hlo (by omega)
    obtain ⟨kv, hk1, hk2⟩ := hlc (lo + i * 5) (by omega)
    have e3 : aget (lo + i * 5) lc = .w kd := e3
    rw [e3] at hk2
    obtain ⟨_, rfl⟩ := hk2.inv_w
    obtain ⟨pv, hp1, hp2⟩ := hlc (lo + i * 5 + 4) (by omega)
    obtain ⟨po, pl, pc, hm12, hP⟩ := onArr_true hm11 (v := pv) (by exact hp2) R
    obtain ⟨h8, hm13⟩ := both_true hm12
    obtain ⟨h10, hm13⟩ := both_true hm13
    obtain ⟨h9, hm14⟩ := both_true hm13
    have h8 := ble_true h8
    have hkey : ∀ (pB slen scap : Nat) (sa : Option Addr) (z : Nat → Int), pv = .slice sa slen scap → pB < w.heap.size → IntsAt w pB (.slice sa slen scap) pl z → (∀ j n, j < pl → aget (po + j) pc = .w n → z j = (n : Int) - bias) →
        OpRun P (callFunc f ⟨[.slice (some ⟨lB, lO, none⟩) ll lcap, bv, .int .i64 i]⟩) w (FPost k φ h w) := fun pB slen scap sa z hpv hpB hI hz => by
      have go : ∀ (aB AO : Nat) (aA : Option Addr) (acap : Nat), aB < w.heap.size → (0 < al → aA = some ⟨aB, AO, none⟩) →
          (∀ j, j < al → gdAt ao ac j → w.cell? ⟨aB, AO + j * 2, none⟩ = some (.int .i64 (aS ao ac j)) ∧ w.cell? ⟨aB, AO + j * 2 + 1, none⟩ = some (.int .i64 (aD ao ac j))) →
          OpRun P (callFunc f ⟨[.slice (some ⟨lB, lO, none⟩) ll lcap, .slice aA al acap, .int .i64 i]⟩) w (FPost k φ h w) := fun aB AO aA acap haB haA hS => by
        refine .inr (.inr ⟨f, _, hent _ w, ?_⟩)
        refine (hC (gdAt ao ac) lB lO ll lcap aB AO aA al acap haA i ((kd : Int) - bias) sa slen scap pB pl z (aS ao ac) (aD ao ac) w hlB haB hpB h7 hi9 ?_ ?_ (by omega) hI hS ?_).mono ?_
        · rw [hlo, Nat.add_assoc]; exact hk1
        · rw [hlo, ← hpv]
          have := hp1
          rw [show lbase + (lo + i * 5 + 4) = lbase + lo + i * 5 + 4 from by omega] at this
          exact this
        · intro pre hpre sz dp hst hge
          exact shChk_ok (pre.map Prod.snd) pl 1 0 sz dp h9 (by simpa using hpre) hst hge
        · rintro e W' ⟨sz, dp, ok, rfl, hout, hBl⟩
          obtain ⟨s, d, rfl, rfl, b1, b2, hk⟩ := shLoop_ok hz hout pl 1 0 (Nat.le_refl _) (by rw [Nat.sub_self]; rfl) hm14
          obtain ⟨R', X⟩ := R.belowW hBl
          refine ⟨_, rfl, _, h, φ, hk, ?_, R', X⟩
          refine .tup (.cons (.agg (.cons (.natW (by omega)) (.cons (.natW (by omega)) .nil)) ?_) (.cons .t .nil))
          intro v hv
          simp only [List.mem_cons, List.not_mem_nil, or_false] at hv
          rcases hv with rfl | rfl <;> rfl
      rcases hA with ⟨rfl, rfl⟩ | ⟨aB, aO, abase, acap, rfl, haB, hao, hac⟩
      · exact go lB 0 none 0 hlB (fun h => absurd h (by omega)) (fun j hj => absurd hj (by omega))
      · refine go aB (abase + ao) (some ⟨aB, aO, none⟩) acap haB (fun h => by rw [hao h]) fun j hj ⟨⟨n1, g1⟩, ⟨n2, g2⟩⟩ => ?_
        obtain ⟨v1, c1, r1⟩ := hac (ao + j * 2) (by omega)
        obtain ⟨v2, c2, r2⟩ := hac (ao + j * 2 + 1) (by omega)
        rw [g1] at r1; rw [g2] at r2
        obtain ⟨_, rfl⟩ := r1.inv_w
        obtain ⟨_, rfl⟩ := r2.inv_w
        unfold aS aD
        rw [g1, g2]
        refine ⟨?_, ?_⟩
        · rw [show abase + ao + j * 2 = abase + (ao + j * 2) from by omega, c1]; rfl
        · rw [show abase + ao + j * 2 + 1 = abase + (ao + j * 2 + 1) from by omega, c2]; rfl
    rcases hP with ⟨e4, h0⟩ | ⟨pB, pO, pbase, pcap, e4, hpB, hpo, hpc⟩
    · subst h0
      exact hkey lB 0 0 none (fun _ => 0) e4 hlB (.inl ⟨rfl, rfl⟩) (fun j n hj => absurd hj (by omega))
    · refine hkey pB pl pcap _ (fun j => (wOf (aget (po + j) pc) : Int) - bias) e4 hpB ?_ (fun j n hj e => by rw [e]; rfl)
      refine .inr ⟨pO, pcap, rfl, fun j hj => ?_⟩
      obtain ⟨v1, c1, r1⟩ := hpc (po + j) (by omega)
      obtain ⟨m, g1⟩ := shWs_ok pl h10 j hj
      rw [g1] at r1
      obtain ⟨_, rfl⟩ := r1.inv_w
      show w.cell? _ = some (.int .i64 ((wOf (aget (po + j) pc) : Int) - bias))
      rw [g1, hpo (by omega), Nat.add_assoc, c1]
      rfl
  ret := fun cf _ l h => .onCons fun a r => .onCons fun b r => .onCons fun x r => .onNil (.onW fun m => .both (.both (ret_onArr fun lo ll lc => .both (ret_onArr fun ao al ac => .onW fun kd => ret_onArr fun po pl pc => .bind shRest_ret fun v => .k _))))
  frm := fun cf _ r l h hk => .onCons fun a q => .onCons fun b q => .onCons fun x q => .onNil (.onW fun m => .both (c := fun _ => Nat.ble bias m) (fun _ => rfl) fun _ => .both (c := fun _ => Nat.ble m (Nat.add bias 1000000000)) (fun _ => rfl) fun _ =>
    frm_onArr hk fun lo ll lc => .both (c := fun _ => Nat.ble (Nat.succ (Nat.sub m bias)) ll) (fun _ => rfl) fun _ => frm_onArr hk fun ao al ac => .onW fun kd => frm_onArr hk fun po pl pc => .pure shRest_ret hk)

end Go.Bvm
