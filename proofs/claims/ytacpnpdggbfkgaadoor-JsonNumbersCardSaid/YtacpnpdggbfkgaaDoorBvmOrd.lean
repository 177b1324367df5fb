/- The abstract machine: what a region's run in one order says of its runs in the others. Conditions: none. -/
import Derived.Test.YtacpnpdggbfkgaaDoorBvmSwap
set_option linter.unusedVariables false
namespace Go.Bvm
variable {P : Program} {G : Nat → Bool} {N : Fr} {cf : CallF} {ops : Array Oper} {b : Nat}

/-- a load finds again what it found -/
def Chk (P : Program) (G : Nat → Bool) (cf : CallF) (N : Fr) (ops : Array Oper) (l : Od) (ρ : TL) (e : L8) (h : H) : Prop :=
  ∃ d v h', dstR ops l.i = some d ∧ Go1 P G cf N ops 0 l.i ρ e h v h' ∧ v = getT N d ρ e

/-- a run of what is left; S: what has been run -/
def Suc (P : Program) (G : Nat → Bool) (cf : CallF) (N : Fr) (ops : Array Oper) (b : Nat) (Q : TL → L8 → H → Prop) : List Od → (Od → Prop) → TL → L8 → H → Prop
  | [], S, ρ, e, h => Q ρ e h
  | x :: r, S, ρ, e, h => ∃ v h1, Go1 P G cf N ops (Nat.add b x.r) x.i ρ e h v h1 ∧ okP N (dstR ops x.i) ∧ (∀ l, S l → l.i ∈ x.c → Chk P G cf N ops l (pρ (dstR ops x.i) v ρ) (pe N (dstR ops x.i) v e) h1) ∧
      Suc P G cf N ops b Q r (fun z => z = x ∨ S z) (pρ (dstR ops x.i) v ρ) (pe N (dstR ops x.i) v e) h1

/-- what is asked for of places that are known alike -/
def Resp (N : Fr) (Q : TL → L8 → H → Prop) : Prop := ∀ ρ ρ' e h, Eqv N ρ ρ' → Q ρ e h → Q ρ' e h

theorem Chk.congr {l : Od} {ρ ρ' : TL} {e : L8} {h : H} (hr : Eqv N ρ ρ') (c : Chk P G cf N ops l ρ e h) : Chk P G cf N ops l ρ' e h := by
  obtain ⟨d, v, h', h1, h2, h3⟩ := c
  exact ⟨d, v, h', h1, fun k => by rw [← goD_eqv hr]; exact h2 k, by rw [← hr]; exact h3⟩

theorem Suc.congr {Q : TL → L8 → H → Prop} (hQ : Resp N Q) : ∀ {L : List Od} {S S' : Od → Prop} {ρ ρ' : TL} {e : L8} {h : H}, Eqv N ρ ρ' → (∀ z, S' z → S z) → Suc P G cf N ops b Q L S ρ e h → Suc P G cf N ops b Q L S' ρ' e h
  | [], S, S', ρ, ρ', e, h, hr, hS, s => hQ _ _ _ _ hr s
  | x :: r, S, S', ρ, ρ', e, h, hr, hS, ⟨v, h1, a1, a2, a3, a4⟩ =>
    ⟨v, h1, fun k => by rw [← goD_eqv hr]; exact a1 k, a2, fun l hl hc => (a3 l (hS l hl) hc).congr (hr.put _ _),
      Suc.congr hQ (hr.put _ _) (fun z hz => hz.imp id (hS z)) a4⟩

/-- the run of the machine says so -/
theorem chks_true {ρ : TL} {e : L8} {h : H} (hcf : CallRet cf) : ∀ {c : List Nat} {k : Bool}, chksD P G cf N ops c ρ e h k = true → k = true ∧ ∀ j, j ∈ c → ∃ d v h', dstR ops j = some d ∧ Go1 P G cf N ops 0 j ρ e h v h' ∧ v = getT N d ρ e
  | [], k, h => ⟨h, by simp⟩
  | j :: r, k, hm => by
    unfold chksD at hm
    split at hm
    · rename_i d hd
      rcases RetV.iff.1 (ret_goD (P := P) (G := G) (N := N) hcf ops 0 j ρ e h) with n | ⟨v, h', n⟩
      · rw [n] at hm; simp at hm
      · rw [n] at hm
        obtain ⟨h1, h2⟩ := both_true hm
        obtain ⟨h3, h4⟩ := chks_true hcf h2
        refine ⟨h3, fun i hi => ?_⟩
        rcases List.mem_cons.1 hi with rfl | hi
        · exact ⟨d, v, h', hd, n, eqV_true h1⟩
        · exact h4 i hi
    · simp at hm

theorem runD_suc (hcf : CallRet cf) (hN : N.l.length ≤ 64) {K : KT} : ∀ {L : List Od} {S : Od → Prop} {ρ : TL} {e : L8} {h : H}, runD P G cf N ops b L ρ e h K = true → Suc P G cf N ops b (fun ρ e h => ∃ ρ0, Eqv N ρ0 ρ ∧ K ρ0 e h = true) L S ρ e h
  | [], S, ρ, e, h, hm => ⟨ρ, .refl _, hm⟩
  | x :: r, S, ρ, e, h, hm0 => by
    have hm : (goD P G cf N ops (Nat.add b x.r) x.i ρ e h fun v h' => put N (dstR ops x.i) v ρ e fun ρ' e' => chksD P G cf N ops x.c ρ' e' h' (runD P G cf N ops b r ρ' e' h' K)) = true := hm0
    rcases RetV.iff.1 (ret_goD (P := P) (G := G) (N := N) hcf ops (Nat.add b x.r) x.i ρ e h) with n | ⟨v, h1, n⟩
    · rw [n] at hm; simp at hm
    · rw [n] at hm
      have hd := put_ok hm
      rw [put_eq hN hd] at hm
      obtain ⟨hk, hc⟩ := chks_true hcf hm
      exact ⟨v, h1, n, hd, fun l _ hl => hc l.i hl, runD_suc hcf hN hk⟩

/-- l's answer hangs on nothing that x turns in the frame -/
def Apart (ops : Array Oper) (l x : Od) : Prop := ∀ d, dstR ops x.i = some d → d ∉ looks ops l.i ∧ dstR ops l.i ≠ some d
/-- two operations that Go leaves open, x ahead of y in the machine's order -/
structure PairOk (P : Program) (ops : Array Oper) (x y : Od) : Prop where
  d1 : ∀ d, dstR ops x.i = some d → d ∉ looks ops y.i
  d2 : ∀ d, dstR ops y.i = some d → d ∉ looks ops x.i
  d3 : ∀ d, dstR ops x.i = some d → dstR ops y.i ≠ some d
  c : clD P ops x.i = .p ∨ clD P ops y.i = .p ∨ (clD P ops x.i = .l ∧ clD P ops y.i = .l) ∨ clD P ops y.i = .a ∨ (clD P ops x.i = .l ∧ clD P ops y.i = .f ∧ x.i ∈ y.c)
/-- any two, x ahead of y in the machine's order -/
structure PairAll (P : Program) (ops : Array Oper) (x y : Od) : Prop where
  ne : x.i ≠ y.i
  nc : y.i ∉ x.c
  rr : clD P ops x.i = .a → clD P ops y.i = .a → x.r ≠ y.r
  ck : x.k = true → Apart ops x y
  kc : x.i ∈ y.c → x.k = true
structure One (P : Program) (ops : Array Oper) (x : Od) : Prop where
  k : x.k = true → clD P ops x.i = .l ∧ ∀ d, dstR ops x.i = some d → d ∉ looks ops x.i
  c : x.c ≠ [] → clD P ops x.i = .f

theorem Chk.off (hN : N.l.length ≤ 64) {l x : Od} (ha : Apart ops l x) {v : V} {ρ : TL} {e : L8} {h : H} (c : Chk P G cf N ops l (pρ (dstR ops x.i) v ρ) (pe N (dstR ops x.i) v e) h) : Chk P G cf N ops l ρ e h := by
  obtain ⟨d, u, h', h1, h2, h3⟩ := c
  refine ⟨d, u, h', h1, fun k => ?_, ?_⟩
  · have := h2 k
    rw [goD_put hN (fun t ht => (ha t ht).1)] at this; exact this
  · rw [getT_put hN (fun e => (ha d e).2 h1)] at h3; exact h3
theorem Chk.on (hN : N.l.length ≤ 64) {l x : Od} (ha : Apart ops l x) {v : V} {ρ : TL} {e : L8} {h : H} (c : Chk P G cf N ops l ρ e h) : Chk P G cf N ops l (pρ (dstR ops x.i) v ρ) (pe N (dstR ops x.i) v e) h := by
  obtain ⟨d, u, h', h1, h2, h3⟩ := c
  refine ⟨d, u, h', h1, fun k => ?_, ?_⟩
  · rw [goD_put hN (fun t ht => (ha t ht).1)]; exact h2 k
  · rw [getT_put hN (fun e => (ha d e).2 h1)]; exact h3

theorem Suc.swap (hf : ∀ r, CallFrm r cf) (hN : N.l.length ≤ 64) {Q : TL → L8 → H → Prop} (hQ : Resp N Q) {x y : Od} {r : List Od} {S : Od → Prop} {ρ : TL} {e : L8} {h : H} (hp : PairOk P ops x y) (ha : PairAll P ops x y) (hx : One P ops x) (hy : One P ops y)
    (hS : ∀ l, S l → (l.i ∈ x.c ∨ l.i ∈ y.c) → Apart ops l x ∧ Apart ops l y ∧ clD P ops l.i = .l) (hk : clD P ops y.i = .a → Kept (Nat.add b y.r) h) (hb : clD P ops x.i = .a → clD P ops y.i = .a → cl (Nat.add b x.r) ≠ cl (Nat.add b y.r))
    (s : Suc P G cf N ops b Q (x :: y :: r) S ρ e h) : Suc P G cf N ops b Q (y :: x :: r) S ρ e h := by
  obtain ⟨u, h1, g1, o1, c1, v, h2, g2, o2, c2, s2⟩ := s
  have g2' : Go1 P G cf N ops (Nat.add b y.r) y.i ρ e h1 v h2 := fun k => by rw [← goD_put hN hp.d1]; exact g2 k
  have hsw := hp.d3
  have hsw' : ∀ t, dstR ops y.i = some t → dstR ops x.i ≠ some t := fun t ht k => hp.d3 t k ht
  have no_c : ∀ z : Od, One P ops z → clD P ops z.i ≠ .f → z.c = [] := fun z hz hc => Classical.byContradiction fun k => hc (hz.c k)
  -- what is left is the same for the heap behind both
  have fin : ∀ h1', Go1 P G cf N ops (Nat.add b y.r) y.i ρ e h v h1' → Go1 P G cf N ops (Nat.add b x.r) x.i ρ e h1' u h2 →
      (∀ l, S l → l.i ∈ y.c → Chk P G cf N ops l (pρ (dstR ops y.i) v ρ) (pe N (dstR ops y.i) v e) h1') →
      (∀ l, S l → l.i ∈ x.c → Chk P G cf N ops l (pρ (dstR ops x.i) u ρ) (pe N (dstR ops x.i) u e) h2) → Suc P G cf N ops b Q (y :: x :: r) S ρ e h := by
    intro h1' gy gx cy cx
    refine ⟨v, h1', gy, o2, cy, u, h2, fun k => by rw [goD_put hN hp.d2]; exact gx k, o1, ?_, ?_⟩
    · intro l hl hc
      rcases hl with rfl | hl
      · exact absurd hc ha.nc
      · have := (cx l hl hc).on (v := v) hN (hS l hl (.inl hc)).2.1
        have e1 := pe_swap hN hsw u v e
        rw [e1]
        exact this.congr (Eqv.swap (d := dstR ops y.i) (d' := dstR ops x.i) hsw' v u ρ)
    · have e1 := pe_swap hN hsw u v e
      rw [e1]
      exact Suc.congr hQ (Eqv.swap (d := dstR ops y.i) (d' := dstR ops x.i) hsw' v u ρ) (fun z hz => by
        rcases hz with rfl | rfl | hz
        · exact .inr (.inl rfl)
        · exact .inl rfl
        · exact .inr (.inr hz)) s2
  -- checks behind y, where its frame alone is another
  have cy0 : ∀ l, S l → l.i ∈ y.c → Chk P G cf N ops l (pρ (dstR ops y.i) v ρ) (pe N (dstR ops y.i) v e) h2 := fun l hl hc => by
    have := c2 l (.inr hl) hc
    have e1 := pe_swap hN hsw u v e
    rw [← e1] at this
    exact (this.congr (Eqv.swap (d := dstR ops y.i) (d' := dstR ops x.i) hsw' v u ρ)).off hN (hS l hl (.inr hc)).1
  rcases hp.c with hc | hc | ⟨hc, hc'⟩ | hc | ⟨hc, hc', hm⟩
  · obtain ⟨rfl, gx⟩ := go_p hc g1
    refine fin h2 g2' (gx h2) cy0 ?_
    intro l hl hm; rw [no_c x hx (by rw [hc]; simp)] at hm; simp at hm
  · obtain ⟨rfl, gy⟩ := go_p hc g2'
    refine fin h (gy h) g1 (fun l hl hm => ?_) c1
    rw [no_c y hy (by rw [hc]; simp)] at hm; simp at hm
  · obtain rfl := go_l hc g1
    obtain rfl := go_l hc' g2'
    refine fin _ g2' g1 (fun l hl hm => ?_) c1
    rw [no_c y hy (by rw [hc']; simp)] at hm; simp at hm
  · have hyc : y.c = [] := no_c y hy (by rw [hc]; simp)
    have hkr := hk hc
    rcases go_a hc g2' with ⟨rfl, gy⟩ | ⟨B, rfl, gy⟩
    · exact fin h (gy h) g1 (fun l hl hm => by rw [hyc] at hm; simp at hm) c1
    · obtain ⟨k1, f1⟩ := go_frm (hf _) (fun hc' => hb hc' hc) hkr g1
      refine fin _ (gy h) (f1 B) (fun l hl hm => by rw [hyc] at hm; simp at hm) ?_
      intro l hl hm
      obtain ⟨d, w, h', q1, q2, q3⟩ := c1 l hl hm
      have hlc := (hS l hl (.inl hm)).2.2
      obtain ⟨_, f2⟩ := go_frm (hf _) (fun hc' => by rw [hlc] at hc'; simp at hc') k1 q2
      exact ⟨d, w, _, q1, f2 B, q3⟩
  · obtain rfl := go_l hc g1
    refine fin h2 g2' ?_ cy0 (fun l hl hm => by rw [no_c x hx (by rw [hc]; simp)] at hm; simp at hm)
    obtain ⟨d, w, h', q1, q2, q3⟩ := c2 x (.inl rfl) hm
    have hxl := go_l hc q2
    subst hxl
    have hkx := hx.k (ha.kc hm)
    have hu : w = u := by
      rw [q3, getT_put hN (fun e => hp.d3 d q1 e)]
      rw [q1]; exact getT_put_same u ρ _
    subst hu
    intro k
    have := q2 k
    rw [goD_put hN hp.d2, goD_put hN (fun t ht => hkx.2 t ht)] at this
    rw [goD_id (by rw [hc]; simp) _ 0]; exact this

/-- what has been run and is looked at again hangs on nothing that is left -/
def Fit (P : Program) (ops : Array Oper) (S : Od → Prop) (L : List Od) : Prop := ∀ l, S l → ∀ z, z ∈ L → l.i ∈ z.c → clD P ops l.i = .l ∧ ∀ w, w ∈ L → Apart ops l w

theorem Fit.next {S : Od → Prop} {x : Od} {L : List Od} (h : Fit P ops S (x :: L)) (hx : One P ops x) (hp : ∀ y, y ∈ L → PairAll P ops x y) : Fit P ops (fun z => z = x ∨ S z) L := by
  intro l hl z hz hc
  rcases hl with rfl | hl
  · have hk := (hp z hz).kc hc
    exact ⟨(hx.k hk).1, fun w hw => (hp w hw).ck hk⟩
  · obtain ⟨h1, h2⟩ := h l hl z (List.mem_cons_of_mem _ hz) hc
    exact ⟨h1, fun w hw => h2 w (List.mem_cons_of_mem _ hw)⟩
theorem Fit.pick {S : Od → Prop} {y : Od} {A r : List Od} (h : Fit P ops S (A ++ y :: r)) (hy : One P ops y) (hA : ∀ x, x ∈ A → PairOk P ops x y ∧ PairAll P ops x y) (hr : ∀ z, z ∈ r → PairAll P ops y z) : Fit P ops (fun z => z = y ∨ S z) (A ++ r) := by
  intro l hl z hz hc
  have mem : ∀ w, w ∈ A ++ r → w ∈ A ++ y :: r := fun w hw => by
    rcases List.mem_append.1 hw with k | k
    · exact List.mem_append_left _ k
    · exact List.mem_append_right _ (List.mem_cons_of_mem _ k)
  rcases hl with rfl | hl
  · rcases List.mem_append.1 hz with hz | hz
    · exact absurd hc (hA z hz).2.nc
    · have hk := (hr z hz).kc hc
      refine ⟨(hy.k hk).1, fun w hw => ?_⟩
      rcases List.mem_append.1 hw with hw | hw
      · exact fun d hd => ⟨(hA w hw).1.d1 d hd, (hA w hw).1.d3 d hd⟩
      · exact (hr w hw).ck hk
  · obtain ⟨h1, h2⟩ := h l hl z (mem z hz) hc
    exact ⟨h1, fun w hw => h2 w (mem w hw)⟩

/-- an operation that may be next, set ahead of those that the machine runs before it -/
theorem Suc.front (hf : ∀ r, CallFrm r cf) (hN : N.l.length ≤ 64) {Q : TL → L8 → H → Prop} (hQ : Resp N Q) {y : Od} {r : List Od} (hy : One P ops y) : ∀ {A : List Od} {S : Od → Prop} {ρ : TL} {e : L8} {h : H},
    (∀ x, x ∈ A → PairOk P ops x y) → (A ++ y :: r).Pairwise (PairAll P ops) → (∀ x, x ∈ A → One P ops x) → (∀ x, x ∈ A → clD P ops x.i = .a → clD P ops y.i = .a → cl (Nat.add b x.r) ≠ cl (Nat.add b y.r)) →
    Fit P ops S (A ++ y :: r) → (clD P ops y.i = .a → Kept (Nat.add b y.r) h) →
    Suc P G cf N ops b Q (A ++ y :: r) S ρ e h → Suc P G cf N ops b Q (y :: (A ++ r)) S ρ e h
  | [], S, ρ, e, h, _, _, _, _, _, _, s => s
  | x :: A, S, ρ, e, h, hA, hP, hO, hb, hS, hk, s => by
    rw [List.cons_append, List.pairwise_cons] at hP
    obtain ⟨v, h1, g1, o1, c1, s2⟩ := s
    have hx := hO x (by simp)
    have hyL : y ∈ A ++ y :: r := by simp
    have k1 : clD P ops y.i = .a → Kept (Nat.add b y.r) h1 := fun hc => (go_frm (hf _) (fun hc' => hb x (by simp) hc' hc) (hk hc) g1).1
    have ih := Suc.front hf hN hQ hy (fun z hz => hA z (by simp [hz])) hP.2 (fun z hz => hO z (by simp [hz])) (fun z hz => hb z (by simp [hz])) (Fit.next hS hx hP.1) k1 s2
    refine Suc.swap hf hN hQ (hA x (by simp)) (hP.1 y hyL) hx hy (fun l hl hc => ?_) hk (hb x (by simp)) ⟨v, h1, g1, o1, c1, ih⟩
    rcases hc with hc | hc
    · obtain ⟨q1, q2⟩ := hS l hl x (by simp) hc
      exact ⟨q2 x (by simp), q2 y (by simp), q1⟩
    · obtain ⟨q1, q2⟩ := hS l hl y (by simp) hc
      exact ⟨q2 x (by simp), q2 y (by simp), q1⟩

/-! the check of a region's order -/
noncomputable section
def isA (c : Cl) : Bool := match c with | .a => true | _ => false
def isF (c : Cl) : Bool := match c with | .f => true | _ => false
def isP' (c : Cl) : Bool := match c with | .p => true | _ => false
def notIn (d : Option Tmp) (l : List Nat) : Bool := match d with | none => true | some t => !l.contains t
def otherD (d d' : Option Tmp) : Bool := match d, d' with | some t, some u => !Nat.beq t u | _, _ => true
def apartB (ops : Array Oper) (l x : Od) : Bool := notIn (dstR ops x.i) (looks ops l.i) && otherD (dstR ops x.i) (dstR ops l.i)
def pairOkB (P : Program) (ops : Array Oper) (x y : Od) : Bool :=
  notIn (dstR ops x.i) (looks ops y.i) && notIn (dstR ops y.i) (looks ops x.i) && otherD (dstR ops x.i) (dstR ops y.i) &&
  (isP' (clD P ops x.i) || isP' (clD P ops y.i) || (isL (clD P ops x.i) && isL (clD P ops y.i)) || isA (clD P ops y.i) || (isL (clD P ops x.i) && isF (clD P ops y.i) && y.c.contains x.i))
def pairAllB (P : Program) (ops : Array Oper) (x y : Od) : Bool :=
  !Nat.beq x.i y.i && !x.c.contains y.i && (!isA (clD P ops x.i) || !isA (clD P ops y.i) || !Nat.beq x.r y.r) && (!x.k || apartB ops x y) && (!y.c.contains x.i || x.k)
def oneB (P : Program) (ops : Array Oper) (x : Od) : Bool :=
  (!x.k || (isL (clD P ops x.i) && notIn (dstR ops x.i) (looks ops x.i))) && (x.c.isEmpty || isF (clD P ops x.i))
/-- the edges that bind -/
def afterB (ops : Array Oper) (i : Nat) : List Nat := match ops[i]? with
  | some o => o.after.toList.filterMap fun e => if Region.binds .any e then some e.on else none
  | none => []
/-- the bits of a list -/
def orL (m : Nat → Nat) : List Nat → Nat → Nat
  | [], n => n
  | i :: r, n => orL m r (Nat.lor (Nat.lor (Nat.shiftLeft 1 i) (m i)) n)
def maskIn (L : List Od) (i : Nat) : Nat := match L.find? (fun x => Nat.beq x.i i) with | some x => x.m | none => 0
def restB (P : Program) (ops : Array Oper) : List Od → Bool
  | [] => true
  | x :: r => oneB P ops x && Nat.ble (Nat.succ x.i) ops.size && (afterB ops x.i).all (fun j => Nat.ble (Nat.succ j) ops.size && !Nat.beq j x.i && r.all fun y => !Nat.beq j y.i) &&
      r.all (fun y => pairAllB P ops x y && (Nat.testBit y.m x.i || pairOkB P ops x y)) && restB P ops r
/-- a region's order is one that may be; and what it does not fix may be in any order -/
def chkR (P : Program) (ops : Array Oper) (L : List Od) : Bool :=
  Nat.beq L.length ops.size && restB P ops L && (List.range ops.size).all (fun j => L.any fun x => Nat.beq x.i j) && L.all fun x => Nat.beq x.m (orL (maskIn L) (afterB ops x.i) 0)
/-- all regions of a code -/
def chkC (P : Program) (N : Fr) : Code → Bool
  | .region i ops true => match N.o i with | some (_, l) => chkR P ops l | none => true
  | .seq a b => chkC P N a && chkC P N b
  | .cond _ a b => chkC P N a && chkC P N b
  | .block _ a => chkC P N a
  | .loop a => chkC P N a
  | _ => true
end
end Go.Bvm
