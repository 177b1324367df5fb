/- The abstract machine: a call that was run once, on no more memory than it looks at, need not be run again. Conditions: stated in each theorem. -/
import Derived.Test.YtfcknednlkfmpaaGreatDoorBvmExt
set_option linter.unusedVariables false
namespace Go.Bvm
variable {P : Program} {G : Nat → Bool}

noncomputable section
/-- a block written out -/
def aL (l : List V) : Nat → Arr → Arr := List.rec (motive := fun _ => Nat → Arr → Arr) (fun _ c => c) (fun v _ ih i c => ih (i + 1) (aset i v c)) l
def lenV (l : List V) : Nat := List.rec (motive := fun _ => Nat) 0 (fun _ _ ih => ih + 1) l
def bkL (l : List V) (ver frz elem : Nat) (ex own : Bool) : Blk := .bk (aL l 0 (fresh (lenV l))) (lenV l) ver frz elem ex own

abbrev Mem := List (Nat × Blk)
def putM (L : Mem) (t : T6) : T6 := List.rec (motive := fun _ => T6) t (fun x _ ih => hset x.1 x.2 ih) L
def clrM (L : Mem) (t : T6) : T6 := List.rec (motive := fun _ => T6) t (fun x _ ih => hset x.1 .nb ih) L

/-- two blocks alike -/
def eqC (c c' : Arr) : (n i : Nat) → Bool := Nat.rec (motive := fun _ => Nat → Bool) (fun _ => true) (fun _ ih i => both (eqV (aget i c) (aget i c')) (ih (i + 1)))
def eqT2 (a b : Bool) : Bool := bs a b (nots b)
def eqBlk (a b : Blk) : Bool := Blk.rec (motive := fun _ => Bool) false
  (fun c size ver frz elem ex own => onBk b fun c' size' ver' frz' elem' ex' own' => both (Nat.beq size size') (both (Nat.beq ver ver') (both (Nat.beq frz frz') (both (Nat.beq elem elem') (both (eqT2 ex ex') (both (eqT2 own own') (both (Nat.ble size (acap c')) (eqC c c' size 0))))))))
  (fun kv => onMp b fun kv' => eqV kv kv') (fun l n pos => onIt b fun l' n' pos' => both (Nat.beq l l') (both (Nat.beq n n') (Nat.beq pos pos'))) a
/-- memory holds these -/
def subL (L : Mem) (t : T6) : Bool := List.rec (motive := fun _ => Bool) true (fun x _ ih => both (eqBlk (hget x.1 t) x.2) ih) L
def inL (i : Nat) (L : Mem) : Bool := List.rec (motive := fun _ => Bool) false (fun x _ ih => bs (Nat.beq x.1 i) true ih) L
/-- what a call found and left is written as it should be -/
def wfP (n : Nat) (L : Mem) : Bool := List.rec (motive := fun _ => Bool) true (fun x _ ih => both (Nat.ble (Nat.succ x.1) n) ih) L
def wfQ (n : Nat) (LP L : Mem) : Bool := List.rec (motive := fun _ => Bool) true (fun x _ ih => both (Nat.ble (Nat.succ x.1) 262144) (both (bs (inL x.1 LP) true (Nat.ble n x.1)) ih)) L
def wfM (n n' : Nat) (LP LQ : Mem) : Bool := both (Nat.ble n n') (both (Nat.ble n' 262144) (both (wfP n LP) (wfQ n LP LQ)))

/-- the call, as it went -/
def memoA (l0 : V) (n n' : Nat) (v0 : V) (LP LQ : Mem) (l : V) (h : H) (k : KV) : Bool := both (eqV l l0) (both (Nat.beq h.next n) (both (subL LP h.tr) (k v0 ⟨n', putM LQ (clrM LP h.tr)⟩)))
/-- what is asked of its run -/
def memoK (n' : Nat) (v0 : V) (LQ : Mem) : KV := fun v h => both (eqV v v0) (both (Nat.beq h.next n') (subL LQ h.tr))
end

theorem lookL : ∀ (L : Mem) (i : Nat), (∃ b, (i, b) ∈ L ∧ (∀ t : T6, (∀ x, x ∈ L → x.1 < 262144) → i < 262144 → hget i (putM L t) = b) ∧ ∀ t, (∀ x, x ∈ L → x.1 < 262144) → i < 262144 → hget i (clrM L t) = .nb) ∨
    ((∀ x, x ∈ L → x.1 ≠ i) ∧ (∀ t : T6, (∀ x, x ∈ L → x.1 < 262144) → i < 262144 → hget i (putM L t) = hget i t) ∧ ∀ t : T6, (∀ x, x ∈ L → x.1 < 262144) → i < 262144 → hget i (clrM L t) = hget i t)
  | [], i => .inr ⟨fun x h => by simp at h, fun t _ _ => rfl, fun t _ _ => rfl⟩
  | (j, b) :: r, i => by
    by_cases e : i = j
    · subst e
      refine .inl ⟨b, by simp, fun t hL hi => ?_, fun t hL hi => ?_⟩
      · show hget i (hset i b (putM r t)) = b
        rw [hget_hset _ _ _ _ hi hi, if_pos rfl]
      · show hget i (hset i .nb (clrM r t)) = .nb
        rw [hget_hset _ _ _ _ hi hi, if_pos rfl]
    · have p1 : ∀ t : T6, (∀ x, x ∈ (j, b) :: r → x.1 < 262144) → i < 262144 → hget i (putM ((j, b) :: r) t) = hget i (putM r t) := fun t hL hi => by
        show hget i (hset j b (putM r t)) = _
        rw [hget_hset _ _ _ _ hi (hL (j, b) (by simp)), if_neg e]
      have p2 : ∀ t : T6, (∀ x, x ∈ (j, b) :: r → x.1 < 262144) → i < 262144 → hget i (clrM ((j, b) :: r) t) = hget i (clrM r t) := fun t hL hi => by
        show hget i (hset j .nb (clrM r t)) = _
        rw [hget_hset _ _ _ _ hi (hL (j, b) (by simp)), if_neg e]
      rcases lookL r i with ⟨c, h1, h2, h3⟩ | ⟨h1, h2, h3⟩
      · exact .inl ⟨c, by simp [h1], fun t hL hi => (p1 t hL hi).trans (h2 t (fun x hx => hL x (by simp [hx])) hi), fun t hL hi => (p2 t hL hi).trans (h3 t (fun x hx => hL x (by simp [hx])) hi)⟩
      · refine .inr ⟨fun x hx => ?_, fun t hL hi => (p1 t hL hi).trans (h2 t (fun x hx => hL x (by simp [hx])) hi), fun t hL hi => (p2 t hL hi).trans (h3 t (fun x hx => hL x (by simp [hx])) hi)⟩
        rcases List.mem_cons.1 hx with rfl | hx
        · exact fun k => e k.symm
        · exact h1 x hx

theorem subL_mem : ∀ {L : Mem} {t : T6}, subL L t = true → ∀ x, x ∈ L → eqBlk (hget x.1 t) x.2 = true
  | [], _, _, x, h => by simp at h
  | y :: r, t, h, x, hx => by
    obtain ⟨h1, h2⟩ := both_true (show both (eqBlk (hget y.1 t) y.2) (subL r t) = true from h)
    rcases List.mem_cons.1 hx with rfl | hx
    · exact h1
    · exact subL_mem h2 x hx
theorem subL_of : ∀ {L : Mem} {t : T6}, (∀ x, x ∈ L → eqBlk (hget x.1 t) x.2 = true) → subL L t = true
  | [], _, _ => rfl
  | y :: r, t, h => by
    show both (eqBlk (hget y.1 t) y.2) (subL r t) = true
    rw [h y (by simp)]
    exact subL_of fun x hx => h x (by simp [hx])
theorem inL_mem : ∀ {i : Nat} {L : Mem}, inL i L = true → ∃ b, (i, b) ∈ L
  | _, [], h => Bool.noConfusion (show false = true from h)
  | i, y :: r, h => by
    rcases bs_cases (show bs (Nat.beq y.1 i) true (inL i r) = true from h) with ⟨h1, _⟩ | ⟨_, h2⟩
    · exact ⟨y.2, by rw [← beq_true h1]; simp⟩
    · obtain ⟨b, hb⟩ := inL_mem h2
      exact ⟨b, by simp [hb]⟩
theorem wfP_mem : ∀ {n : Nat} {L : Mem}, wfP n L = true → ∀ x, x ∈ L → x.1 < n
  | _, [], _, x, h => by simp at h
  | n, y :: r, h, x, hx => by
    obtain ⟨h1, h2⟩ := both_true (show both (Nat.ble (Nat.succ y.1) n) (wfP n r) = true from h)
    rcases List.mem_cons.1 hx with rfl | hx
    · exact ble_true h1
    · exact wfP_mem h2 x hx
theorem wfQ_mem : ∀ {n : Nat} {LP L : Mem}, wfQ n LP L = true → ∀ x, x ∈ L → x.1 < 262144 ∧ ((∃ b, (x.1, b) ∈ LP) ∨ n ≤ x.1)
  | _, _, [], _, x, h => by simp at h
  | n, LP, y :: r, h, x, hx => by
    obtain ⟨h1, h2⟩ := both_true (show both (Nat.ble (Nat.succ y.1) 262144) (both (bs (inL y.1 LP) true (Nat.ble n y.1)) (wfQ n LP r)) = true from h)
    obtain ⟨h3, h4⟩ := both_true h2
    rcases List.mem_cons.1 hx with rfl | hx
    · refine ⟨ble_true h1, ?_⟩
      rcases bs_cases h3 with ⟨h5, _⟩ | ⟨_, h5⟩
      · exact .inl (inL_mem h5)
      · exact .inr (ble_true h5)
    · exact wfQ_mem h4 x hx

theorem eqC_ok {φ : Phi} {c c' : Arr} : ∀ (n i : Nat), eqC c c' n i = true → ∀ j, i ≤ j → j < i + n → aget j c = aget j c'
  | 0, i, _, j, h1, h2 => by omega
  | n + 1, i, h, j, h1, h2 => by
    obtain ⟨h3, h4⟩ := both_true (show both (eqV (aget i c) (aget i c')) (eqC c c' n (i + 1)) = true from h)
    by_cases e : j = i
    · subst e; exact eqV_true h3
    · exact eqC_ok (φ := φ) n (i + 1) h4 j (by omega) (by omega)
theorem eqT2_true {a b : Bool} (h : eqT2 a b = true) : a = b := by cases a <;> cases b <;> first | rfl | exact Bool.noConfusion (show false = true from h)

theorem onIt_true' {b : Blk} {k : Nat → Nat → Nat → Bool} (h : onIt b k = true) : ∃ l n p, b = .it l n p ∧ k l n p = true := by
  cases b <;> first | exact Bool.noConfusion (show false = true from h) | exact ⟨_, _, _, rfl, h⟩
theorem onMp_true' {b : Blk} {k : V → Bool} (h : onMp b k = true) : ∃ kv, b = .mp kv ∧ k kv = true := by
  cases b <;> first | exact Bool.noConfusion (show false = true from h) | exact ⟨_, rfl, h⟩

theorem eqBlk_ok {a b : Blk} (h : eqBlk a b = true) : a ≠ .nb ∧ b ≠ .nb ∧ owns b = owns a ∧ verOf b = verOf a ∧ ∀ φ w id, BlkOk φ w id a → BlkOk φ w id b := by
  cases a with
  | nb => exact Bool.noConfusion (show false = true from h)
  | bk c size ver frz elem ex own =>
    obtain ⟨c', size', ver', frz', elem', ex', own', rfl, h0⟩ := onBk_true (show onBk b _ = true from h)
    obtain ⟨h1, i1⟩ := both_true h0; obtain ⟨h2, i2⟩ := both_true i1; obtain ⟨h3, i3⟩ := both_true i2; obtain ⟨h4, i4⟩ := both_true i3
    obtain ⟨h5, i5⟩ := both_true i4; obtain ⟨h6, i6⟩ := both_true i5; obtain ⟨h7, i7⟩ := both_true i6
    obtain rfl := beq_true h1; obtain rfl := beq_true h2; obtain rfl := beq_true h3; obtain rfl := beq_true h4
    obtain rfl := eqT2_true h5; obtain rfl := eqT2_true h6
    have h7 := ble_true h7
    refine ⟨by simp, by simp, rfl, rfl, fun φ w id ⟨l, cs, fr, a1, a2, a3, a4, a5, a6, a7, a8, a9, a10⟩ => ⟨l, cs, fr, a1, a2, a3, a4, a5, h7, fun i hi => ?_, a8, a9, a10⟩⟩
    rw [← eqC_ok (φ := φ) _ _ i7 i (by omega) (by omega)]
    exact a7 i hi
  | mp kv =>
    obtain ⟨kv', rfl, h0⟩ := onMp_true' (show onMp b _ = true from h)
    obtain rfl := eqV_true h0
    exact ⟨by simp, by simp, rfl, rfl, fun _ _ _ h => h⟩
  | it l n pos =>
    obtain ⟨l', n', pos', rfl, h0⟩ := onIt_true' (show onIt b _ = true from h)
    obtain ⟨h1, h0⟩ := both_true h0; obtain ⟨h2, h3⟩ := both_true h0
    obtain rfl := beq_true h1; obtain rfl := beq_true h2; obtain rfl := beq_true h3
    exact ⟨by simp, by simp, rfl, rfl, fun _ _ _ h => h⟩

/-- less memory is known -/
theorem Rel.less {φ : Phi} {h : H} {w : World} (R : Rel φ h w) {LP : Mem} (hlt : ∀ x, x ∈ LP → x.1 < 262144) (hs : subL LP h.tr = true) : Rel φ ⟨h.next, putM LP t6⟩ w where
  next := R.next
  dom := R.dom
  blk := fun id hid => by
    show BlkOk φ w id (hget id (putM LP t6))
    rcases lookL LP id with ⟨b, h1, h2, _⟩ | ⟨_, h2, _⟩
    · rw [h2 _ hlt hid]
      exact (eqBlk_ok (subL_mem hs _ h1)).2.2.2.2 _ _ _ (R.blk id hid)
    · rw [h2 _ hlt hid, hget_t6]; trivial
  apart := fun i j hi hj hne ho hn l m h1 h2 => by
    dsimp only at ho hn h1 h2
    rcases lookL LP i with ⟨b, b1, b2, _⟩ | ⟨_, b2, _⟩
    · rw [b2 _ hlt hi] at ho h1
      obtain ⟨_, _, e1, e2, _⟩ := eqBlk_ok (subL_mem hs _ b1)
      dsimp only at e1 e2
      rw [e1] at ho; rw [e2] at h1
      rcases lookL LP j with ⟨d, d1, d2, _⟩ | ⟨_, d2, _⟩
      · rw [d2 _ hlt hj] at hn h2
        obtain ⟨k1, _, _, e4, _⟩ := eqBlk_ok (subL_mem hs _ d1)
        dsimp only at k1 e4
        rw [e4] at h2
        exact R.apart i j hi hj hne ho k1 l m h1 h2
      · rw [d2 _ hlt hj, hget_t6] at hn; exact absurd rfl hn
    · rw [b2 _ hlt hi, hget_t6] at ho; simp [owns] at ho

theorem memo_ok {cf : CallF} (hcf : CallS P G cf) {f : Nat} {l0 v0 : V} {n n' : Nat} {LP LQ : Mem} (hrun : cf f l0 ⟨n, putM LP t6⟩ (memoK n' v0 LQ) = true) (hwf : wfM n n' LP LQ = true)
    {l : V} {h : H} {k : KV} (hm : memoA l0 n n' v0 LP LQ l h k = true) {φ : Phi} {w : World} {args : List Value} (hg : GlobOk P G φ) (hl : RL φ l args) (R : Rel φ h w) : OpRun P (callFunc f ⟨args⟩) w (FPost k φ h w) := by
  obtain ⟨m1, hm⟩ := both_true hm
  obtain ⟨m2, hm⟩ := both_true hm
  obtain ⟨hs, hk⟩ := both_true hm
  obtain ⟨w1, hwf⟩ := both_true hwf
  obtain ⟨w2, hwf⟩ := both_true hwf
  obtain ⟨w3, w4⟩ := both_true hwf
  have w1 := ble_true w1; have w2 := ble_true w2
  have hPn := wfP_mem w3
  have hQ := wfQ_mem w4
  have hP : ∀ x, x ∈ LP → x.1 < 262144 := fun x hx => by have := hPn x hx; omega
  have hQlt : ∀ x, x ∈ LQ → x.1 < 262144 := fun x hx => (hQ x hx).1
  obtain rfl := eqV_true m1
  obtain rfl := beq_true m2
  have Rp := R.less hP hs
  refine (hcf f l _ _ hrun φ w args hg hl Rp).mono ?_
  rintro c w' ⟨v, h', φ', hK, rv, R', X⟩
  obtain ⟨k1, hK⟩ := both_true hK
  obtain ⟨k2, hq⟩ := both_true hK
  obtain rfl := eqV_true k1
  obtain rfl := beq_true k2
  -- what lies where
  have look : ∀ i, i < 262144 → (∃ b, hget i (putM LQ (clrM LP h.tr)) = b ∧ eqBlk (hget i h'.tr) b = true) ∨
      ((∀ x, x ∈ LP → x.1 ≠ i) ∧ hget i (putM LQ (clrM LP h.tr)) = hget i h.tr) ∨ hget i (putM LQ (clrM LP h.tr)) = .nb := fun i hi => by
    rcases lookL LQ i with ⟨b, b1, b2, _⟩ | ⟨_, b2, _⟩
    · exact .inl ⟨b, b2 _ hQlt hi, subL_mem hq _ b1⟩
    · rcases lookL LP i with ⟨b, b1, _, b3⟩ | ⟨d1, _, d3⟩
      · exact .inr (.inr ((b2 _ hQlt hi).trans (b3 _ hP hi)))
      · exact .inr (.inl ⟨d1, (b2 _ hQlt hi).trans (d3 _ hP hi)⟩)
  have offP : ∀ i, i < 262144 → (∀ x, x ∈ LP → x.1 ≠ i) → hget i (putM LP t6) = .nb := fun i hi hn => by
    rcases lookL LP i with ⟨b, b1, _, _⟩ | ⟨_, b2, _⟩
    · exact absurd rfl (hn _ b1)
    · rw [b2 _ hP hi, hget_t6]
  have inP : ∀ i, i < 262144 → hget i (putM LP t6) ≠ .nb → (∃ x, x ∈ LP ∧ x.1 = i) ∧ hget i h.tr ≠ .nb ∧ owns (hget i (putM LP t6)) = owns (hget i h.tr) ∧ verOf (hget i (putM LP t6)) = verOf (hget i h.tr) := fun i hi hn => by
    rcases lookL LP i with ⟨b, b1, b2, _⟩ | ⟨_, b2, _⟩
    · rw [b2 _ hP hi]
      obtain ⟨q1, q2, q3, q4, _⟩ := eqBlk_ok (subL_mem hs _ b1)
      exact ⟨⟨_, b1, rfl⟩, q1, q3, q4⟩
    · rw [b2 _ hP hi, hget_t6] at hn; exact absurd rfl hn
  -- old blocks
  have old : ∀ i, i < 262144 → (∀ x, x ∈ LP → x.1 ≠ i) → hget i h.tr ≠ .nb → i < h.next ∧ ∀ v, φ' i v = φ i v := fun i hi hn hnb => by
    have hlt : i < h.next := by
      have := R.blk i hi
      cases hb : hget i h.tr with
      | nb => exact absurd hb hnb
      | bk => rw [hb] at this; obtain ⟨l, _, _, e, _⟩ := this; exact (R.dom _ _ _ e).1
      | mp => rw [hb] at this; obtain ⟨l, _, _, e, _⟩ := this; exact (R.dom _ _ _ e).1
      | it => rw [hb] at this; obtain ⟨l, _, e, _⟩ := this; exact (R.dom _ _ _ e).1
    exact ⟨hlt, (X.dead i hlt (offP i hi hn)).2⟩
  have ownP : ∀ B, Own φ (putM LP t6) B → ∃ i l, i < 262144 ∧ (∃ x, x ∈ LP ∧ x.1 = i) ∧ owns (hget i h.tr) = true ∧ φ i (verOf (hget i h.tr)) = some l ∧ l.B = B := by
    rintro B ⟨i, l, hi, ho, hv, hB⟩
    have hn : hget i (putM LP t6) ≠ .nb := fun e => by rw [e] at ho; simp [owns] at ho
    obtain ⟨q1, q2, q3, q4⟩ := inP i hi hn
    exact ⟨i, l, hi, q1, by rw [← q3]; exact ho, by rw [← q4]; exact hv, hB⟩
  have visP : ∀ B, Vis φ (putM LP t6) B → ∃ i l, i < 262144 ∧ (∃ x, x ∈ LP ∧ x.1 = i) ∧ hget i h.tr ≠ .nb ∧ φ i (verOf (hget i h.tr)) = some l ∧ l.B = B := by
    rintro B ⟨i, l, hi, hn, hv, hB⟩
    obtain ⟨q1, q2, q3, q4⟩ := inP i hi hn
    exact ⟨i, l, hi, q1, q2, by rw [← q4]; exact hv, hB⟩
  have ne_of : ∀ {i j : Nat}, (∃ x, x ∈ LP ∧ x.1 = i) → (∀ x, x ∈ LP → x.1 ≠ j) → i ≠ j := by
    rintro i j ⟨x, hx, rfl⟩ hn; exact hn x hx
  have hNew : Rel φ' ⟨h'.next, putM LQ (clrM LP h.tr)⟩ w' := by
    refine ⟨R'.next, R'.dom, fun id hid => ?_, fun i j hi hj hne ho hn l m h1 h2 => ?_⟩
    · show BlkOk φ' w' id (hget id (putM LQ (clrM LP h.tr)))
      rcases look id hid with ⟨b, e1, e2⟩ | ⟨hn, e1⟩ | e1
      · rw [e1]; exact (eqBlk_ok e2).2.2.2.2 _ _ _ (R'.blk id hid)
      · rw [e1]
        by_cases hnb : hget id h.tr = .nb
        · rw [hnb]; trivial
        · obtain ⟨hlt, hφ⟩ := old id hid hn hnb
          have keep : ∀ l, φ id (verOf (hget id h.tr)) = some l → w'.heap[l.B]? = w.heap[l.B]? := fun l hl => by
            refine X.frame _ (R.dom _ _ _ hl).2.1 fun hO => ?_
            obtain ⟨i2, l2, hi2, hin, ho2, hv2, hB⟩ := ownP _ hO
            exact R.apart i2 id hi2 hid (ne_of hin hn) ho2 hnb l2 l hv2 hl hB
          have := R.blk id hid
          cases hb : hget id h.tr with
          | nb => exact absurd hb hnb
          | bk c size ver frz elem ex own =>
            rw [hb] at this keep
            obtain ⟨l, cs, fr, a1, a2, a3, a4, a5, a6, a7, a8, a9, a10⟩ := this
            exact ⟨l, cs, fr, by rw [hφ]; exact a1, a2, by rw [keep l a1]; exact a3, a4, a5, a6, fun i hi => let ⟨v, x1, x2, x3⟩ := a7 i hi; ⟨v, x1, x2.mono X.le, x3⟩, fun v hv => by rw [hφ]; exact a8 v hv, a9, a10⟩
          | mp kv =>
            rw [hb] at this keep
            obtain ⟨l, es, clock, a1, a2, a3, a4, a5⟩ := this
            exact ⟨l, es, clock, by rw [hφ]; exact a1, a2, by rw [keep l a1]; exact a3, a4.mono X.le, fun v hv => by rw [hφ]; exact a5 v hv⟩
          | it ln nn pos =>
            rw [hb] at this keep
            obtain ⟨l, s, a1, a2, a3, a4, a5, a6, a7⟩ := this
            exact ⟨l, s, by rw [hφ]; exact a1, a2, by rw [keep l a1]; exact a3, a4, a5, a6, fun v hv => by rw [hφ]; exact a7 v hv⟩
      · rw [e1]; trivial
    · dsimp only at ho hn h1 h2
      rcases look i hi with ⟨b, e1, e2⟩ | ⟨in1, e1⟩ | e1
      · rw [e1] at ho h1
        obtain ⟨q1, q2, q3, q4, _⟩ := eqBlk_ok e2
        rw [q3] at ho; rw [q4] at h1
        rcases look j hj with ⟨d, e3, e4⟩ | ⟨jn, e3⟩ | e3
        · rw [e3] at hn h2
          obtain ⟨r1, r2, r3, r4, _⟩ := eqBlk_ok e4
          rw [r4] at h2
          exact R'.apart i j hi hj hne ho r1 l m h1 h2
        · rw [e3] at hn h2
          obtain ⟨hlt, hφ⟩ := old j hj jn hn
          rw [hφ] at h2
          intro hB
          have hsz : m.B < w.heap.size := (R.dom _ _ _ h2).2.1
          obtain ⟨i2, l2, hi2, hin, ho2, hv2, hB2⟩ := ownP _ (X.own l.B (by rw [hB]; exact hsz) ⟨i, l, hi, ho, h1, rfl⟩)
          exact R.apart i2 j hi2 hj (ne_of hin jn) ho2 hn l2 m hv2 h2 (hB2.trans hB)
        · rw [e3] at hn; exact absurd rfl hn
      · rw [e1] at ho h1
        have hnb : hget i h.tr ≠ .nb := fun e => by rw [e] at ho; simp [owns] at ho
        obtain ⟨hlt, hφ⟩ := old i hi in1 hnb
        rw [hφ] at h1
        have hsz : l.B < w.heap.size := (R.dom _ _ _ h1).2.1
        rcases look j hj with ⟨d, e3, e4⟩ | ⟨jn, e3⟩ | e3
        · rw [e3] at hn h2
          obtain ⟨r1, r2, r3, r4, _⟩ := eqBlk_ok e4
          rw [r4] at h2
          intro hB
          obtain ⟨i2, l2, hi2, hin, hn2, hv2, hB2⟩ := visP _ (X.vis m.B (by rw [← hB]; exact hsz) ⟨j, m, hj, r1, h2, rfl⟩)
          exact R.apart i i2 hi hi2 (fun e => ne_of hin in1 e.symm) ho hn2 l l2 h1 hv2 (hB.trans hB2.symm)
        · rw [e3] at hn h2
          obtain ⟨_, hφ2⟩ := old j hj jn hn
          rw [hφ2] at h2
          exact R.apart i j hi hj hne ho hn l m h1 h2
        · rw [e3] at hn; exact absurd rfl hn
      · rw [e1] at ho; simp [owns] at ho
  refine ⟨v, ⟨h'.next, putM LQ (clrM LP h.tr)⟩, φ', hk, rv, hNew, X.le, X.os, X.tape, X.output, X.size, w1, fun B hB hO => ?_, fun B hB hV => ?_, fun B hB hO => X.frame B hB fun k => ?_, fun id hid hnb => ?_⟩
  · obtain ⟨i, l, hi, ho, hv, e⟩ := hO
    rcases look i hi with ⟨b, e1, e2⟩ | ⟨in1, e1⟩ | e1
    · rw [e1] at ho hv
      obtain ⟨q1, q2, q3, q4, _⟩ := eqBlk_ok e2
      obtain ⟨i2, l2, hi2, _, ho2, hv2, hB2⟩ := ownP _ (X.own B hB ⟨i, l, hi, by rw [← q3]; exact ho, by rw [← q4]; exact hv, e⟩)
      exact ⟨i2, l2, hi2, ho2, hv2, hB2⟩
    · rw [e1] at ho hv
      have hnb : hget i h.tr ≠ .nb := fun e => by rw [e] at ho; simp [owns] at ho
      rw [(old i hi in1 hnb).2] at hv
      exact ⟨i, l, hi, ho, hv, e⟩
    · rw [e1] at ho; simp [owns] at ho
  · obtain ⟨i, l, hi, hn, hv, e⟩ := hV
    rcases look i hi with ⟨b, e1, e2⟩ | ⟨in1, e1⟩ | e1
    · rw [e1] at hv
      obtain ⟨q1, q2, q3, q4, _⟩ := eqBlk_ok e2
      obtain ⟨i2, l2, hi2, _, hn2, hv2, hB2⟩ := visP _ (X.vis B hB ⟨i, l, hi, q1, by rw [← q4]; exact hv, e⟩)
      exact ⟨i2, l2, hi2, hn2, hv2, hB2⟩
    · rw [e1] at hn hv
      rw [(old i hi in1 hn).2] at hv
      exact ⟨i, l, hi, hn, hv, e⟩
    · exact absurd e1 hn
  · obtain ⟨i2, l2, hi2, _, ho2, hv2, hB2⟩ := ownP _ k
    exact hO ⟨i2, l2, hi2, ho2, hv2, hB2⟩
  · have hid2 : id < 262144 := by have := R.next; omega
    have hnP : ∀ x, x ∈ LP → x.1 ≠ id := fun x hx e => by
      have := (eqBlk_ok (subL_mem hs x hx)).1
      rw [e] at this; exact this hnb
    have hnQ : ∀ x, x ∈ LQ → x.1 ≠ id := fun x hx e => by
      rcases (hQ x hx).2 with ⟨b, hb⟩ | hle
      · exact hnP _ hb e
      · omega
    refine ⟨?_, (X.dead id hid (offP id hid2 hnP)).2⟩
    rcases look id hid2 with ⟨b, e1, e2⟩ | ⟨_, e1⟩ | e1
    · exfalso
      rcases lookL LQ id with ⟨d, d1, _, _⟩ | ⟨_, d2, _⟩
      · exact hnQ _ d1 rfl
      · rw [d2 _ hQlt hid2] at e1
        rcases lookL LP id with ⟨d, d1, _, _⟩ | ⟨_, _, d3⟩
        · exact hnP _ d1 rfl
        · rw [d3 _ hP hid2, hnb] at e1
          exact (eqBlk_ok e2).2.1 e1.symm
    · exact e1.trans hnb
    · exact e1

theorem putM_comm {r : Nat} (b : Blk) : ∀ (L : Mem) (t : T6), (∀ x, x ∈ L → cl x.1 ≠ cl r) → putM L (hset r b t) = hset r b (putM L t)
  | [], _, _ => rfl
  | x :: q, t, h => by
    show hset x.1 x.2 (putM q (hset r b t)) = hset r b (hset x.1 x.2 (putM q t))
    rw [putM_comm b q t fun y hy => h y (by simp [hy]), hset_comm (h x (by simp))]
theorem clrM_comm {r : Nat} (b : Blk) : ∀ (L : Mem) (t : T6), (∀ x, x ∈ L → cl x.1 ≠ cl r) → clrM L (hset r b t) = hset r b (clrM L t)
  | [], _, _ => rfl
  | x :: q, t, h => by
    show hset x.1 .nb (clrM q (hset r b t)) = hset r b (hset x.1 .nb (clrM q t))
    rw [clrM_comm b q t fun y hy => h y (by simp [hy]), hset_comm (h x (by simp))]

/-- a function whose calls have been run in part -/
theorem EntOk.memo {f : Nat} {A : CallF → V → H → KV → Bool} (e : EntOk P G f A) {cf0 : CallF} (hcf0 : CallS P G cf0) {l0 v0 : V} {n n' : Nat} {LP LQ : Mem} (hrun : cf0 f l0 ⟨n, putM LP t6⟩ (memoK n' v0 LQ) = true) (hwf : wfM n n' LP LQ = true) :
    EntOk P G f (fun cf l h k => bs (Nat.beq h.next n) (memoA l0 n n' v0 LP LQ l h k) (A cf l h k)) where
  ok := fun cf h1 h2 h3 l h k hm φ w args hg hl R => by
    rcases bs_cases hm with ⟨_, hm⟩ | ⟨_, hm⟩
    · exact memo_ok hcf0 hrun hwf hm hg hl R
    · exact e.ok cf h1 h2 h3 l h k hm φ w args hg hl R
  ret := fun cf h1 l h => .bs (.both (.both (.both (.k _)))) (e.ret cf h1 l h)
  frm := fun cf h1 r l h hk => by
    show FrmAt r (fun h (k : V → H → Bool) => bs (Nat.beq h.next n) (memoA l0 n n' v0 LP LQ l h k) (A cf l h k)) h
    cases hb : Nat.beq h.next n with
    | false =>
      rcases e.frm cf h1 r l h hk with e0 | ⟨a, h2, e1, k1, e2⟩
      · exact .inl fun k => by show bs (Nat.beq h.next n) _ _ = false; rw [hb]; exact e0 k
      · exact .inr ⟨a, h2, fun k => by show bs (Nat.beq h.next n) _ _ = _; rw [hb]; exact e1 k, k1, fun b k => by show bs (Nat.beq h.next n) _ _ = _; rw [hb]; exact e2 b k⟩
    | true =>
      cases c1 : eqV l l0 with
      | false => exact .inl fun k => by show bs (Nat.beq h.next n) (both (eqV l l0) _) _ = false; rw [hb, c1]; rfl
      | true =>
        cases c2 : subL LP h.tr with
        | false => exact .inl fun k => by show bs (Nat.beq h.next n) (both (eqV l l0) (both (Nat.beq h.next n) (both (subL LP h.tr) _))) _ = false; rw [hb, c1, c2]; rfl
        | true =>
          obtain ⟨w1, hwf⟩ := both_true hwf
          obtain ⟨w2, hwf⟩ := both_true hwf
          obtain ⟨w3, w4⟩ := both_true hwf
          have w1 := ble_true w1; have w2 := ble_true w2
          have hPn := wfP_mem w3
          have hQ := wfQ_mem w4
          have hbn := beq_true hb
          have hr := hk.lt; have hrn := hk.next
          have hP : ∀ x, x ∈ LP → x.1 < 262144 := fun x hx => by have := hPn x hx; omega
          have hnP : ∀ x, x ∈ LP → x.1 ≠ r := fun x hx q => by
            have := (eqBlk_ok (subL_mem c2 x hx)).1
            rw [q] at this; exact this hk.nb
          have hnQ : ∀ x, x ∈ LQ → x.1 ≠ r := fun x hx q => by
            rcases (hQ x hx).2 with ⟨b, hb⟩ | hle
            · exact hnP _ hb q
            · omega
          have cP : ∀ x, x ∈ LP → cl x.1 ≠ cl r := fun x hx => by rw [cl_id (hP x hx), cl_id hr]; exact hnP x hx
          have cQ : ∀ x, x ∈ LQ → cl x.1 ≠ cl r := fun x hx => by rw [cl_id (hQ x hx).1, cl_id hr]; exact hnQ x hx
          have hsub : ∀ b, subL LP (hset r b h.tr) = true := fun b => subL_of fun x hx => by
            rw [hget_hset _ _ _ _ (hP x hx) hr, if_neg (hnP x hx)]; exact subL_mem c2 x hx
          refine .inr ⟨v0, ⟨n', putM LQ (clrM LP h.tr)⟩, fun k => ?_, ⟨hr, by show r < n'; omega, ?_⟩, fun b k => ?_⟩
          · show bs (Nat.beq h.next n) (both (eqV l l0) (both (Nat.beq h.next n) (both (subL LP h.tr) _))) _ = _
            rw [hb, c1, c2]; rfl
          · show hget r (putM LQ (clrM LP h.tr)) = .nb
            rcases lookL LQ r with ⟨d, d1, _, _⟩ | ⟨_, d2, _⟩
            · exact absurd rfl (hnQ _ d1)
            · rw [d2 _ (fun x hx => (hQ x hx).1) hr]
              rcases lookL LP r with ⟨d, d1, _, _⟩ | ⟨_, _, d3⟩
              · exact absurd rfl (hnP _ d1)
              · rw [d3 _ hP hr]; exact hk.nb
          · show bs (Nat.beq h.next n) (both (eqV l l0) (both (Nat.beq h.next n) (both (subL LP (hset r b h.tr)) (k v0 ⟨n', putM LQ (clrM LP (hset r b h.tr))⟩)))) _ = _
            rw [hb, c1, hsub, clrM_comm b LP h.tr cP, putM_comm b LQ _ cQ]; rfl

/-- one function of a table laid anew -/
theorem TblOk.over {t : CallF → CallF} (ht : TblOk P G t) {f : Nat} {A : CallF → V → H → KV → Bool} (e : EntOk P G f A) : TblOk P G (fun cf g => (bs (Nat.beq g f) (A cf) (t cf g) : V → H → KV → Bool)) where
  ok := fun cf h1 h2 h3 g l h k hm => by
    replace hm : (bs (Nat.beq g f) (A cf) (t cf g) : V → H → KV → Bool) l h k = true := hm
    cases hb : Nat.beq g f with
    | false => rw [hb, bs_false] at hm; exact ht.ok cf h1 h2 h3 g l h k hm
    | true =>
      rw [hb, bs_true] at hm
      obtain rfl := beq_true hb
      exact e.ok cf h1 h2 h3 l h k hm
  ret := fun cf h1 g l h => by
    show RetV ((bs (Nat.beq g f) (A cf) (t cf g) : V → H → KV → Bool) l h)
    cases hb : Nat.beq g f with
    | false => exact ht.ret cf h1 g l h
    | true => exact e.ret cf h1 l h
  frm := fun cf h1 r g l => by
    show FrmG r (fun h (k : V → H → Bool) => (bs (Nat.beq g f) (A cf) (t cf g) : V → H → KV → Bool) l h k)
    cases hb : Nat.beq g f with
    | false => exact ht.frm cf h1 r g l
    | true => exact e.frm cf h1 r l

end Go.Bvm
