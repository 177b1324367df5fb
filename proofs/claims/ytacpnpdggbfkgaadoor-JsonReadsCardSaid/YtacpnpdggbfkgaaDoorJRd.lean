/- Functions run by the abstract machine on values that are not all known. Conditions: stated in each theorem. -/
import Derived.Test.YtacpnpdggbfkgaaDoorJRc
import Derived.ChangeArms
set_option linter.unusedVariables false
set_option linter.unusedSimpArgs false
set_option linter.unusedVariables false
set_option linter.unusedSimpArgs false
set_option maxRecDepth 20000
namespace Go.Bvm.JN
open Go.Bvm
theorem EqStrings_w {X Y : List Nat} {h : H} {va vb : V} {a b : List Str} {k : KV} (A : Sl X h va a) (B : Sl Y h vb b) (hb : a.length < big) {n : Nat} (K : k (.t (decide (a = b))) h = true) : run tbl (n + 1) Nf_z_EqStrings (vl [va, vb]) h k = true := by
  rw [run_succ, tbl_z_EqStrings]
  have ab := A.bd; have bb := B.bd
  have hm : maxB = 140737488355328 := rfl
  unfold T_z_EqStrings z_EqStrings_6 z_EqStrings_0 z_EqStrings_4 z_EqStrings_5
  simp (implicitDefEqProofs := false) (disch := omega) [A.lenL, B.lenL]
  by_cases hl : a.length = b.length
  · have hl' : (a.length : Int) = b.length := by omega
    simp (implicitDefEqProofs := false) [hl']
    refine loop_w (fun m e h' => ∃ i : Nat, m = a.length - i ∧ i ≤ a.length ∧ e = f8 (V.t false) (wz i) va vb V.u V.u V.u V.u ∧ h' = h ∧ a.take i = b.take i) ?_ big a.length _ _ ⟨0, by simp⟩ hb
    rintro m e h' ⟨i, rfl, hi, rfl, rfl, ht⟩ K' Kn Kx Kr
    unfold z_EqStrings_1 z_EqStrings_2 z_EqStrings_3
    simp (implicitDefEqProofs := false) (disch := omega) [A.lenL]
    by_cases hi2 : i < a.length
    · obtain ⟨ra, a1⟩ := at_Str A hi2
      obtain ⟨rb, b1⟩ := at_Str B (show i < b.length by omega)
      simp (implicitDefEqProofs := false) (disch := omega) [a1, b1, hi2]
      by_cases c : a[i] = b[i]
      · simp (implicitDefEqProofs := false) (disch := omega) [c]
        exact Kn _ _ _ (by omega) ⟨i + 1, rfl, hi2, rfl, rfl, (take_succ_eq hi2 (by omega)).2 ⟨ht, c⟩⟩
      · simp [c]
        refine Kr _ _ ?_
        simpa [ne_of_at c] using K
    · simp [hi2]
      refine Kx _ _ _ ?_
      have : a = b := by rw [List.take_of_length_le (by omega), List.take_of_length_le (by omega)] at ht; exact ht
      simpa [this] using K
  · have hl' : ¬ (a.length : Int) = b.length := by omega
    have : ¬ a = b := fun e => hl (by rw [e])
    simpa [hl', this] using K
theorem EqJson_t {A B : List Nat} {h : H} {ca cb : List V} {x : api_Json} {k : KV} (E : Enc.rep A h ca x) (F : Enc.rep B h cb x) (hk : x.Keys.length ≤ 1000000) (hp : x.Parts.length ≤ 1000000) {n : Nat} (K : ∀ h', Ex h h' → k (.t true) h' = true) : run tbl (n + 2) Nf_z_EqJson (vl [.x .agg (vl ca) V.nil, .x .agg (vl cb) V.nil]) h k = true := by
  have la : ca.length = 5 := Enc.len E
  have lb : cb.length = 5 := Enc.len F
  rw [run_succ, tbl_z_EqJson]
  unfold T_z_EqJson z_EqJson_2
  simp (implicitDefEqProofs := false) (disch := omega)
  refine newA_w la (by decide) (by decide) fun h1 n1 B1 x1 => ?_
  have E1 : Ex h h1 := x1.ex (Nat.le_refl _)
  have hn1 : h1.next = h.next + 1 := n1
  refine newA_w lb (by decide) (by decide) fun h2 n2 B2 x2 => ?_
  have E2 : Ex h1 h2 := x2.ex (Nat.le_refl _)
  have hn2 : h2.next = h1.next + 1 := n2
  have E02 : Ex h h2 := E1.loc E2 (by omega) (by omega)
  have B12 := B1.fz E2 (by omega) (by decide)
  have Ea := Enc.fz E E02 (Nat.le_refl _) (by decide)
  have Eb := Enc.fz F E02 (Nat.le_refl _) (by decide)
  obtain ⟨v1, v2, rfl, f0, f1, f2, f3, f4⟩ := Ea
  obtain ⟨w1, w2, rfl, g0, g1, g2, g3, g4⟩ := Eb
  have La := fun {o m} => B12.ld (n := 5) rfl (off := o) (lim := m)
  have Lb := fun {o m} => B2.ld (n := 5) rfl (off := o) (lim := m)
  unfold z_EqJson_1 z_EqJson_0
  have e1 : ∀ k : KV, k (.t true) h2 = true → run tbl (n + 1) Nf_z_EqStrings (vl [v1, w1]) h2 k = true := fun k hk2 => EqStrings_w f3.sl g3.sl (by unfold big; omega) (by simpa using hk2)
  have e2 : ∀ k : KV, k (.t true) h2 = true → run tbl (n + 1) Nf_z_EqNumbers (vl [v2, w2]) h2 k = true := fun k hk2 => EqNumbers_w f4.sl g4.sl (by unfold big; omega) (by simpa using hk2)
  have := K h2 E02
  simp (implicitDefEqProofs := false) (disch := omega) [La, Lb]
  refine e1 _ ?_
  simp (implicitDefEqProofs := false) (disch := omega) [La, Lb]
  refine e2 _ ?_
  exact this
theorem EqJsons_t {A B : List Nat} {h : H} {va vb : V} {xs : List api_Json} {k : KV} (S : Sl A h va xs) (T : Sl B h vb xs) (hl : xs.length ≤ 1000000) (hk : ∀ x ∈ xs, x.Keys.length ≤ 1000000 ∧ x.Parts.length ≤ 1000000) {n : Nat} (K : ∀ h', Ex h h' → k (.t true) h' = true) : run tbl (n + 3) Nf_z_EqJsons (vl [va, vb]) h k = true := by
  rw [run_succ, tbl_z_EqJsons]
  unfold T_z_EqJsons z_EqJsons_6 z_EqJsons_0 z_EqJsons_4 z_EqJsons_5
  simp (implicitDefEqProofs := false) (disch := omega) [S.lenL, T.lenL]
  refine loop_w (fun m e h' => ∃ i : Nat, m = xs.length - i ∧ i ≤ xs.length ∧ e = f8 (V.t false) (wz i) va vb V.u V.u V.u V.u ∧ Ex h h') ?_ big xs.length _ _ ⟨0, by simp, by omega, rfl, Fz.refl _ _ _ _⟩ (by unfold big; omega)
  rintro m e h1 ⟨i, rfl, hi, rfl, E1⟩ K' Kn Kx Kr
  have S1 := S.fz E1 (Nat.le_refl _) (by decide)
  have T1 := T.fz E1 (Nat.le_refl _) (by decide)
  unfold z_EqJsons_1
  by_cases hi2 : i < xs.length
  · have hi3 : (i : Int) < xs.length := by omega
    obtain ⟨ca, Ea, a1, a2, a3⟩ := S1.at (i := (i : Int)) (Int.natCast_nonneg i) (getE? (show (i : Int).toNat < xs.length from hi2))
    obtain ⟨cb, Eb, b1, b2, b3⟩ := T1.at (i := (i : Int)) (Int.natCast_nonneg i) (getE? (show (i : Int).toNat < xs.length from hi2))
    have lca : ca.length = 5 := Enc.len Ea
    have lcb : cb.length = 5 := Enc.len Eb
    have a1' : ∀ k, iadV 5 va (wz (i : Int)) k = k (pel va (i : Int) 0) := a1
    have b1' : ∀ k, iadV 5 vb (wz (i : Int)) k = k (pel vb (i : Int) 0) := b1
    have a3' : ∀ k, lda 5 (pel va (i : Int) 0) h1 k = k (.x .agg (vl ca) V.nil) := fun k => by
      have := a3 0 5 k (by decide)
      rw [List.drop_zero, List.take_of_length_le (by omega)] at this
      exact this
    have b3' : ∀ k, lda 5 (pel vb (i : Int) 0) h1 k = k (.x .agg (vl cb) V.nil) := fun k => by
      have := b3 0 5 k (by decide)
      rw [List.drop_zero, List.take_of_length_le (by omega)] at this
      exact this
    have hb := hk _ (List.getElem_mem hi2)
    unfold z_EqJsons_2 z_EqJsons_3
    simp (implicitDefEqProofs := false) (disch := omega) [S.lenL, hi3, a1', b1', a3', b3']
    refine EqJson_t (n := n) Ea Eb hb.1 hb.2 fun h2 E2 => ?_
    simp (implicitDefEqProofs := false) (disch := omega)
    exact Kn _ _ _ (by omega) ⟨i + 1, rfl, by omega, by simp, E1.loc E2 E1.nx E1.nx⟩
  · have hi3 : ¬ (i : Int) < xs.length := by omega
    have := K h1 E1
    simp (implicitDefEqProofs := false) (disch := omega) [S.lenL, hi3]
    refine Kx _ _ _ ?_
    simp (implicitDefEqProofs := false) (disch := omega)
    exact this
end Go.Bvm.JN
set_option linter.unusedVariables false
set_option linter.unusedSimpArgs false
set_option maxRecDepth 20000
namespace Go.Bvm.JN
open Go.Bvm
theorem flat_set {n : Nat} {m : List V} (hm : m.length = n) : ∀ {cs : List (List V)} (i : Nat), (∀ c ∈ cs, c.length = n) → i < cs.length → lput cs.flatten (i * n) m = (cs.set i m).flatten
  | [], i, _, hi => by simp at hi
  | c :: r, 0, h, _ => by
    have hc := h c List.mem_cons_self
    unfold lput
    simp [hc, hm]
  | c :: r, i + 1, h, hi => by
    have hc := h c List.mem_cons_self
    have ih := flat_set hm (cs := r) i (fun d hd => h d (List.mem_cons_of_mem _ hd)) (by simpa using hi)
    rw [List.set_cons_succ, List.flatten_cons, List.flatten_cons, ← ih]
    unfold lput
    rw [show (i + 1) * n = c.length + i * n from by rw [hc, Nat.add_mul, Nat.one_mul]; omega]
    rw [List.take_length_add_append, show c.length + i * n + m.length = c.length + (i * n + m.length) from by omega, List.drop_length_add_append]
    simp
theorem set_len {n : Nat} {m : List V} (hm : m.length = n) {cs : List (List V)} {i : Nat} (h : ∀ c ∈ cs, c.length = n) : ∀ c ∈ cs.set i m, c.length = n := by
  intro c hc
  rcases List.mem_or_eq_of_mem_set hc with q | q
  · exact h c q
  · rw [q]; exact hm
theorem _root_.Go.Bvm.RowO.put {X : List Nat} {c : Nat} {h : H} {v : V} {ty n : Nat} {cs : List (List V)} (R : RowO X c h v ty n cs) {i : Nat} {m : List V} {k : KV} (hi : i < cs.length) (hm : m.length = n)
    (K : ∀ h', RowO X c h' v ty n (cs.set i m) → h'.next = h.next → (∀ j, j ∉ rids v → hget j h'.tr = hget j h.tr) → k V.u h' = true) : st false n (pel v (i : Int) 0) (.x .agg (vl m) V.nil) h k = true := by
  obtain ⟨hn, hb, ⟨rfl, rfl⟩ | ⟨id, ver, rfl, hci, hid, B⟩⟩ := R
  · simp at hi
  have hfl := flat_len hn
  have hle : (i + 1) * n ≤ cs.length * n := Nat.mul_le_mul_right _ hi
  rw [Nat.add_mul, Nat.one_mul] at hle
  show st false n (.p id (0 + i * n + 0) (0 + cs.length * n) ver) _ h k = true
  rw [Nat.zero_add, Nat.add_zero, Nat.zero_add]
  refine sta_w B hm (by omega) (by omega) fun h1 n1 B1 x1 => ?_
  rw [flat_set hm i hn hi] at B1
  refine K h1 ⟨set_len hm hn, by simpa using hb, .inr ⟨id, ver, by simp, hci, ⟨by omega, hid.2⟩, B1⟩⟩ n1 fun j hj => x1.2 j (by simpa using hj)
theorem _root_.Go.Bvm.RowO.put1 {X : List Nat} {c : Nat} {h : H} {v : V} {ty : Nat} {cs : List (List V)} (R : RowO X c h v ty 1 cs) {i : Nat} {w : V} {k : KV} (hi : i < cs.length) (hw : oneV w = true)
    (K : ∀ h', RowO X c h' v ty 1 (cs.set i [w]) → h'.next = h.next → (∀ j, j ∉ rids v → hget j h'.tr = hget j h.tr) → k V.u h' = true) : st true 1 (pel v (i : Int) 0) w h k = true := by
  obtain ⟨hn, hb, ⟨rfl, rfl⟩ | ⟨id, ver, rfl, hci, hid, B⟩⟩ := R
  · simp at hi
  have hfl := flat_len hn
  show st true 1 (.p id (0 + i * 1 + 0) (0 + cs.length * 1) ver) _ h k = true
  rw [Nat.zero_add, Nat.add_zero, Nat.zero_add, Nat.mul_one, Nat.mul_one]
  refine st_w B (by omega) (by omega) hw fun h1 n1 B1 x1 => ?_
  have e : cs.flatten.set i w = (cs.set i [w]).flatten := by
    rw [← flat_set (n := 1) (m := [w]) rfl i hn hi]
    unfold lput
    rw [Nat.mul_one]
    exact List.set_eq_take_append_cons_drop.trans (by rw [if_pos (by omega)]; simp)
  rw [e] at B1
  refine K h1 ⟨set_len rfl hn, by simpa using hb, .inr ⟨id, ver, by simp, hci, ⟨by omega, hid.2⟩, B1⟩⟩ n1 fun j hj => x1.2 j (by simpa using hj)
theorem Numbers_w {h : H} {v : V} {cs : List (List V)} {k : KV} (R : RowO [] 0 h v Ty_int 1 cs) (A : ∀ c ∈ cs, ∃ z, c = [wz z] ∧ inR z) (hl : cs.length ≤ 1000000) {n : Nat} (K : ∀ h' ds, RowO [] 0 h' v Ty_int 1 ds → (∀ c ∈ ds, ∃ z, c = [wz z] ∧ inR z) → ds.length = cs.length → h'.next = h.next → (∀ j, j ∉ rids v → hget j h'.tr = hget j h.tr) → k tup0 h' = true) : run tbl (n + 1) Nf_l0_Numbers (vl [v]) h k = true := by
  rw [run_succ, tbl_l0_Numbers]
  unfold T_l0_Numbers l0_Numbers_3
  simp (implicitDefEqProofs := false) (disch := omega)
  refine loop_w (fun m e h' => ∃ (i : Nat) (ds : List (List V)), m = cs.length - i ∧ i ≤ cs.length ∧ e = f8 (wz i) v V.u V.u V.u V.u V.u V.u ∧ RowO [] 0 h' v Ty_int 1 ds ∧ (∀ c ∈ ds, ∃ z, c = [wz z] ∧ inR z) ∧ ds.length = cs.length ∧ h'.next = h.next ∧ (∀ j, j ∉ rids v → hget j h'.tr = hget j h.tr)) ?_ big cs.length _ _ ⟨0, cs, by simp, by omega, rfl, R, A, rfl, rfl, fun _ _ => rfl⟩ (by unfold big; omega)
  rintro m e h1 ⟨i, ds, rfl, hi, rfl, R1, A1, hd, n1, F1⟩ K' Kn Kx Kr
  unfold l0_Numbers_0
  have hlen : ∀ k, lenL v k = k (wz ds.length) := R1.row.lenL
  by_cases hi2 : i < cs.length
  · have hi3 : (i : Int) < ds.length := by omega
    have a1 := (R1.row.at (i := (i : Int)) (c := ds[i]'(by omega)) (Int.natCast_nonneg i) (getE? (show (i : Int).toNat < ds.length by simpa using (by omega)))).2.1
    unfold l0_Numbers_1 l0_Numbers_2
    simp (implicitDefEqProofs := false) (disch := omega) [hlen, hi3, a1]
    refine R1.put1 (by omega) rfl fun h2 R2 n2 F2 => ?_
    exact Kn _ _ _ (by omega) ⟨i + 1, _, rfl, by omega, by simp, R2, fun c hc => by
      rcases List.mem_or_eq_of_mem_set hc with q | q
      · exact A1 c q
      · exact ⟨-99, q, by decide⟩, by simpa using hd, by omega, fun j hj => (F2 j hj).trans (F1 j hj)⟩
  · have hi3 : ¬ (i : Int) < ds.length := by omega
    have := K h1 ds R1 A1 hd n1 F1
    simp (implicitDefEqProofs := false) (disch := omega) [hlen, hi3]
    refine Kx _ _ _ ?_
    simp (implicitDefEqProofs := false) (disch := omega)
    exact this
theorem ints_keep {h h2 : H} {v u : V} {cs ds es : List (List V)} (R : RowO [] 0 h v Ty_int 1 cs) (R2 : RowO [] 0 h2 v Ty_int 1 ds) (hds : ds.length = cs.length) (A2 : ∀ c ∈ ds, ∃ z, c = [wz z] ∧ inR z) (n2 : h2.next = h.next) (F : ∀ j, j ∉ rids v → hget j h2.tr = hget j h.tr) (T : RowO [] 0 h u Ty_int 1 es) (B : ∀ c ∈ es, ∃ z, c = [wz z] ∧ inR z) : ∃ fs, RowO [] 0 h2 u Ty_int 1 fs ∧ (∀ c ∈ fs, ∃ z, c = [wz z] ∧ inR z) ∧ fs.length = es.length := by
  obtain ⟨hn, hb, ⟨rfl, rfl⟩ | ⟨id, ver, rfl, hci, hid, Bv⟩⟩ := R
  · exact ⟨es, T.gx (by omega) fun j _ _ _ => F j (by simp), B, rfl⟩
  · have T' := T
    obtain ⟨tn, tb, ⟨rfl, rfl⟩ | ⟨idu, veru, rfl, tci, tid, Bu⟩⟩ := T
    · exact ⟨[], .nil _ _ _ _ _, by simp, rfl⟩
    · by_cases e : idu = id
      · subst e
        obtain ⟨c1, p1, p2, p3⟩ := Bv
        obtain ⟨c2, q1, q2, q3⟩ := Bu
        rw [p1] at q1
        injection q1 with e1 e2 e3 e4 e5 e6 e7
        rw [flat_len hn, flat_len tn] at e2
        have e2' : es.length = cs.length := by omega
        rw [e2', ← e3]
        exact ⟨ds, R2, A2, hds⟩
      · exact ⟨es, ⟨tn, tb, .inr ⟨idu, veru, rfl, tci, ⟨by omega, tid.2⟩, Bu.eq (F idu (by simpa using e))⟩⟩, B, rfl⟩
def NodeC (h : H) (c : List V) : Prop := ∃ (a b : Int) (s : Str) (v1 v2 : V) (es : List (List V)), c = [wz a, wz b, vs s, v1, v2] ∧ RowO [] 0 h v2 Ty_int 1 es ∧ (∀ d ∈ es, ∃ z, d = [wz z] ∧ inR z) ∧ es.length ≤ 1000000
theorem Jsons_w {A : List Nat} {c0 : Nat} {h : H} {v : V} {xs : List api_Json} {k : KV} (S : SlO A c0 h v xs) (hl : xs.length ≤ 1000000) (hp : ∀ x ∈ xs, x.Parts.length ≤ 1000000) {n : Nat} (K : ∀ h', Fz 0 h.next [kR Ty_int, kR Ty_api_Json] h h' → k tup0 h' = true) : run tbl (n + 2) Nf_l0_Jsons (vl [v]) h k = true := by
  obtain ⟨cs, R, B⟩ := S
  have R0 : RowO [] 0 h v Ty_api_Json 5 cs := (R.xm (X' := []) (fun i a _ => by simp at a)).mono (Nat.zero_le _)
  have hcl : cs.length = xs.length := B.1
  have A0 : ∀ c ∈ cs, NodeC h c := by
    intro c hc
    obtain ⟨i, hi⟩ := List.mem_iff_getElem?.1 hc
    have hlt : i < cs.length := by
      rcases Nat.lt_or_ge i cs.length with q | q
      · exact q
      · rw [List.getElem?_eq_none q] at hi; simp at hi
    obtain ⟨v1, v2, e, _, _, _, _, s2⟩ := B.2 i c (xs[i]'(by omega)) hi (List.getElem?_eq_getElem (by omega))
    obtain ⟨es, Re, Be⟩ := s2
    refine ⟨_, _, _, v1, v2, es, e, Re.xm (fun i a _ => by simp at a), fun d hd => ?_, ?_⟩
    · obtain ⟨j, hj⟩ := List.mem_iff_getElem?.1 hd
      have hlt2 : j < es.length := by
        rcases Nat.lt_or_ge j es.length with q | q
        · exact q
        · rw [List.getElem?_eq_none q] at hj; simp at hj
      exact ⟨_, Be.2 j d _ hj (List.getElem?_eq_getElem (by have := Be.1; omega))⟩
    · have := Be.1; have := hp _ (List.getElem_mem (show i < xs.length by omega)); omega
  rw [run_succ, tbl_l0_Jsons]
  unfold T_l0_Jsons l0_Jsons_3
  simp (implicitDefEqProofs := false) (disch := omega)
  refine loop_w (fun m e h' => ∃ (i : Nat) (ds : List (List V)), m = cs.length - i ∧ i ≤ cs.length ∧ e = f8 (wz i) v V.u V.u V.u V.u V.u V.u ∧ RowO [] 0 h' v Ty_api_Json 5 ds ∧ (∀ c ∈ ds, NodeC h' c) ∧ ds.length = cs.length ∧ Fz 0 h.next [kR Ty_int, kR Ty_api_Json] h h') ?_ big cs.length _ _ ⟨0, cs, by simp, by omega, rfl, R0, A0, rfl, Fz.refl _ _ _ _⟩ (by unfold big; omega)
  rintro m e h1 ⟨i, ds, rfl, hi, rfl, R1, A1, hd, F1⟩ K' Kn Kx Kr
  unfold l0_Jsons_0
  have hlen : ∀ k, lenL v k = k (wz ds.length) := R1.row.lenL
  by_cases hi2 : i < cs.length
  · have hi3 : (i : Int) < ds.length := by omega
    have hi4 : i < ds.length := by omega
    obtain ⟨_, a1, a2, _⟩ := R1.row.at (i := (i : Int)) (c := ds[i]) (Int.natCast_nonneg i) (getE? (show (i : Int).toNat < ds.length from hi4))
    obtain ⟨a, b, s, v1, v2, es, hc, R2, A2, hes⟩ := A1 _ (List.getElem_mem hi4)
    have ld4 : ∀ k, ld1 (pel v (i : Int) 4) h1 k = k v2 := fun k => by rw [a2 4 k (by decide), hc]; rfl
    unfold l0_Jsons_1 l0_Jsons_2
    simp (implicitDefEqProofs := false) (disch := omega) [hlen, hi3, a1, ld4]
    refine Numbers_w (n := n) R2 A2 hes fun h2 fs R3 A3 hf n2 F2 => ?_
    have hk2 : ∀ j, j ∈ rids v2 → kd (hget j h1.tr) = kR Ty_int := fun j hj => (R2.rids hj).2.2.2
    have R1' : RowO [] 0 h2 v Ty_api_Json 5 ds := R1.gx (by omega) fun j _ _ hk => F2 j fun hj => by
      rw [hk2 j hj] at hk
      exact absurd hk (by decide)
    have A1' : ∀ c ∈ ds, NodeC h2 c := fun c hc => by
      obtain ⟨a, b, s, w1, w2, gs, e, T, Bz, hg⟩ := A1 c hc
      obtain ⟨us, U1, U2, U3⟩ := ints_keep R2 R3 hf A3 n2 F2 T Bz
      exact ⟨a, b, s, w1, w2, us, e, U1, U2, by omega⟩
    refine R1'.put (n := 5) hi4 rfl fun h3 R4 n3 F3 => ?_
    have hkv : ∀ j, j ∈ rids v → kd (hget j h2.tr) = kR Ty_api_Json := fun j hj => (R1'.rids hj).2.2.2
    have F12 : Fz 0 h1.next [kR Ty_int, kR Ty_api_Json] h1 h2 := ⟨by omega, fun j hj => by omega, fun j _ hk => F2 j fun hj => hk (by rw [hk2 j hj]; simp)⟩
    have F23 : Fz 0 h1.next [kR Ty_int, kR Ty_api_Json] h2 h3 := ⟨by omega, fun j hj => by omega, fun j _ hk => F3 j fun hj => hk (by rw [hkv j hj]; simp)⟩
    refine Kn _ _ _ (by omega) ⟨i + 1, _, rfl, by omega, by simp, R4, fun c hc => ?_, by simpa using hd, (F1.trans F12 (Nat.le_refl _) F1.nx (fun _ k => k)).trans F23 (Nat.le_refl _) F1.nx (fun _ k => k)⟩
    rcases List.mem_or_eq_of_mem_set hc with q | q
    · obtain ⟨a, b, s, w1, w2, gs, e, T, Bz, hg⟩ := A1' c q
      exact ⟨a, b, s, w1, w2, gs, e, T.gx (by omega) fun j _ _ hk => F3 j fun hj => by
        rw [hkv j hj] at hk
        exact absurd hk (by decide), Bz, hg⟩
    · exact ⟨-9, 0, [], slnil, slnil, [], q, .nil _ _ _ _ _, by simp, by simp⟩
  · have hi3 : ¬ (i : Int) < ds.length := by omega
    have := K h1 F1
    simp (implicitDefEqProofs := false) (disch := omega) [hlen, hi3]
    refine Kx _ _ _ ?_
    simp (implicitDefEqProofs := false) (disch := omega)
    exact this
end Go.Bvm.JN
set_option linter.unusedVariables false
set_option linter.unusedSimpArgs false
namespace Go.Bvm.JN
open Go.Bvm
namespace P
def OKN (y : api_Json) : Prop := y.Keys.length ≤ 4000 ∧ y.Parts.length ≤ 4000
def AllOK (x : St) : Prop := ∀ y ∈ x.l, OKN y
theorem bad_l (x : St) (e a : Int) : (bad x e a).l = x.l := by unfold bad; split <;> rfl
theorem blanks_l (x : St) : (blanks x).l = x.l := by unfold blanks; split <;> rfl
theorem take_l (x : St) (c : UInt8) : (take x c).l = x.l := by
  unfold take; split
  · exact bad_l _ _ _
  · rfl
theorem begin_l (x : St) (d : Bool) : (begin_ x d).l = x.l := by
  unfold begin_; split
  · exact bad_l _ _ _
  · rfl
theorem text_l (x : St) : (text x).2.l = x.l := by
  unfold text; split
  · exact bad_l _ _ _
  · rfl
theorem number_l (x : St) : (number x).2.l = x.l := by
  unfold number; dsimp only; split
  · rfl
  · exact bad_l _ _ _
theorem literal_l : ∀ (w : Str) (x : St), (literal x w).l = x.l
  | [], x => rfl
  | b :: w, x => by show (literal (take x b) w).l = x.l; rw [literal_l w, take_l]
theorem name_l (x : St) (ks : List Str) : (name x ks).2.l = x.l := by
  unfold name; dsimp only; split
  · rw [take_l, blanks_l]
    split
    · rw [bad_l, text_l, blanks_l]
    · rw [text_l, blanks_l]
  · rw [bad_l, blanks_l]
theorem AllOK.eq {x y : St} (a : AllOK x) (h : y.l = x.l) : AllOK y := by unfold AllOK; rw [h]; exact a
def VO (val : VF) : Prop := ∀ x, AllOK x → AllOK (val x).2
theorem listL_ok {val : VF} (V : VO val) : ∀ (n : Nat) (x : St) (ps : List Int), AllOK x → AllOK (listL val n x ps).1 ∧ (listL val n x ps).2.length ≤ ps.length + n
  | 0, x, ps, a => ⟨a, by show ps.length ≤ ps.length + 0; omega⟩
  | n + 1, x, ps, a => by
    unfold listL
    split
    · dsimp only
      have h1 : AllOK (blanks (val x).2) := (V x a).eq (blanks_l _)
      split
      · have := listL_ok V n { blanks (val x).2 with i := (blanks (val x).2).i + 1 } (ps ++ [(val x).1]) (h1.eq rfl)
        exact ⟨this.1, by have := this.2; simp at this; omega⟩
      · exact ⟨h1, by simp⟩
    · exact ⟨a, by dsimp only; omega⟩
theorem pairsL_ok {val : VF} (V : VO val) : ∀ (n : Nat) (x : St) (ks : List Str) (ps : List Int), AllOK x → AllOK (pairsL val n x ks ps).1 ∧ (pairsL val n x ks ps).2.1.length ≤ ks.length + n ∧ (pairsL val n x ks ps).2.2.length ≤ ps.length + n
  | 0, x, ks, ps, a => ⟨a, by show ks.length ≤ ks.length + 0; omega, by show ps.length ≤ ps.length + 0; omega⟩
  | n + 1, x, ks, ps, a => by
    unfold pairsL
    split
    · dsimp only
      have h1 : AllOK (blanks (val (name x ks).2).2) := (V _ (a.eq (name_l x ks))).eq (blanks_l _)
      split
      · have := pairsL_ok V n { blanks (val (name x ks).2).2 with i := (blanks (val (name x ks).2).2).i + 1 } (ks ++ [(name x ks).1]) (ps ++ [(val (name x ks).2).1]) (h1.eq rfl)
        exact ⟨this.1, by have := this.2.1; simp at this; omega, by have := this.2.2; simp at this; omega⟩
      · exact ⟨h1, by simp, by simp⟩
    · exact ⟨a, by dsimp only; omega, by dsimp only; omega⟩
theorem open_l (x : St) (c : UInt8) : (open_ x c).l = x.l := by show (take (begin_ x true) c).l = x.l; rw [take_l, begin_l]
theorem nested_ok {val : VF} (V : VO val) (x : St) (c : UInt8) (a : AllOK x) : AllOK (nested val x c).2 ∧ OKN (nested val x c).1 := by
  unfold nested
  split
  · have := listL_ok V 4000 (blanks (open_ x c)) [] (a.eq (by rw [blanks_l, open_l]))
    exact ⟨this.1.eq (by show (take _ 93).l = _; rw [take_l]), by show 0 ≤ 4000; decide, by have h := this.2; rw [List.length_nil, Nat.zero_add] at h; exact h⟩
  · have := pairsL_ok V 4000 (blanks (open_ x c)) [] [] (a.eq (by rw [blanks_l, open_l]))
    exact ⟨this.1.eq (by show (take _ 125).l = _; rw [take_l]), by have h := this.2.1; rw [List.length_nil, Nat.zero_add] at h; exact h, by have h := this.2.2; rw [List.length_nil, Nat.zero_add] at h; exact h⟩
theorem body_ok {val : VF} (V : VO val) (x : St) (a : AllOK x) : AllOK (body val x).2 ∧ OKN (body val x).1 := by
  have o0 : ∀ (a b : Int) (s : Str), OKN ⟨a, b, s, [], []⟩ := fun a b s => ⟨by show 0 ≤ 4000; decide, by show 0 ≤ 4000; decide⟩
  unfold body
  dsimp only
  split
  · exact nested_ok V x _ a
  · split
    · exact ⟨a.eq (by rw [text_l, begin_l]), o0 _ _ _⟩
    · split
      · exact ⟨a.eq (by rw [number_l, begin_l]), o0 _ _ _⟩
      · split
        · exact ⟨a.eq (by rw [literal_l, begin_l]), o0 _ _ _⟩
        · exact ⟨a.eq (bad_l _ _ _), o0 _ _ _⟩
theorem value_ok : ∀ f, VO (value f)
  | 0, x, a => a
  | f + 1, x, a => by
    have := body_ok (value_ok f) (blanks x) (a.eq (blanks_l x))
    intro y hy
    rcases List.mem_append.1 (show y ∈ (body (value f) (blanks x)).2.l ++ [(body (value f) (blanks x)).1] from hy) with q | q
    · exact this.1 y q
    · simp only [List.mem_cons, List.not_mem_nil, or_false] at q
      rw [q]; exact this.2
theorem Read_ok (s : Str) : (∀ y ∈ (Read s).1, OKN y) ∧ (Read s).1.length ≤ 1000000 := by
  have b1 : 3000 ≥ s.length → Bd (init s) := fun h => by
    refine ⟨⟨by show (0:Int) ≤ 0; decide, by show (0:Int) ≤ (s.length : Int); omega, by show s.length ≤ 3000; omega⟩, ?_, by show (0:Int) ≤ 0; decide, ?_, by show (0:Int) ≤ 1000000; decide, by show (0:Int) ≤ 0; decide, fun _ => by show (0:Int) ≤ 8; decide⟩
    · show ((0:Nat) : Int) + 30 * ((s.length : Int) - 0) ≤ 200000
      omega
    · intro _
      show (0 : Int) + 30 * ((s.length : Int) - 0) ≤ 200000
      omega
  have hl : (fin s).l = (value 9 (init s)).2.l := by
    unfold fin last
    split
    · rw [bad_l, blanks_l]
    · rw [blanks_l]
  unfold Read
  split
  · exact ⟨fun y h => by simp at h, by simp⟩
  · rename_i h3
    split
    · exact ⟨fun y h => by simp at h, by simp⟩
    · refine ⟨?_, ?_⟩
      · show ∀ y ∈ (fin s).l, OKN y
        rw [hl]
        exact value_ok 9 (init s) fun y h => by simp [init] at h
      · show (fin s).l.length ≤ 1000000
        rw [hl]
        have g := (value_g 9 (init s) (b1 (by omega)) (fun _ => by show (9 : Int) ≤ 9 + 0; decide) (fun _ => by decide)).1
        have h1 := g.l1
        have h2 := g.pi.i1
        have h4 := g.pi.s1
        have h5 : ((init s).l.length : Int) = 0 := rfl
        have h6 : (init s).i = 0 := rfl
        rw [g.s] at h2 h4
        omega
end P
end Go.Bvm.JN
set_option linter.unusedVariables false
set_option linter.unusedSimpArgs false
set_option maxRecDepth 20000
namespace Go.Bvm.JN
open Go.Bvm
def TX (c : Nat) (h : H) (v : V) (ts : List Str) : Prop := (∀ t ∈ ts, t.length ≤ maxB + 10) ∧ ts.length ≤ 1000 ∧ ∃ id ver ex, v = .sl id 0 ts.length ver 1 ∧ c ≤ id ∧ id < h.next ∧ Bk h id ver 0 Ty_string ex true (ts.map vs)
abbrev MJ : List Nat := [kR Ty_int, kR Ty_api_Json]
theorem TX.fz {c a b : Nat} {M : List Nat} {h h' : H} {v : V} {ts : List Str} (T : TX c h v ts) (F : Fz a b M h h') (hb : h.next ≤ b) (d : kR Ty_string ∉ M ∧ kO Ty_string ∉ M) : TX c h' v ts := by
  obtain ⟨t1, t2, id, ver, ex, e, hc, hi, B⟩ := T
  exact ⟨t1, t2, id, ver, ex, e, hc, by have := F.nx; omega, B.eq (F.hi id (by omega) (by rw [B.kd]; cases ex; exact d.1; exact d.2))⟩
theorem TX.at {c : Nat} {h : H} {v : V} {ts : List Str} (T : TX c h v ts) {j : Nat} (hj : j < ts.length) : ts[j].length ≤ maxB + 10 ∧ (∀ k, iadV 1 v (wz (j : Int)) k = k (pel v (j : Int) 0)) ∧ (∀ k, ld1 (pel v (j : Int) 0) h k = k (vs ts[j])) := by
  obtain ⟨t1, t2, id, ver, ex, rfl, hc, hi, B⟩ := T
  refine ⟨t1 _ (List.getElem_mem hj), fun k => iadV_z 1 id 0 ts.length ver j hj k, fun k => ?_⟩
  show ld1 (.p id (0 + j * 1 + 0) (0 + ts.length * 1) ver) h k = _
  rw [Nat.zero_add, Nat.add_zero, Nat.zero_add, Nat.mul_one, Nat.mul_one, B.ld rfl (by simpa using hj) (by omega), nth_get (by simpa using hj)]
  simp
theorem TX.lenL {c : Nat} {h : H} {v : V} {ts : List Str} (T : TX c h v ts) (k : V → Bool) : Go.Bvm.lenL v k = k (wz ts.length) := by
  obtain ⟨t1, t2, id, ver, ex, rfl, hc, hi, B⟩ := T
  exact lenL_sl _ _ _ _ _ (by omega) k
theorem num_eq {n : Nat} (z : Int) (h : H) (k : KV) : run tbl (n + 1) Nf_l1_num (vl [wz z]) h k = k (wz z) h := by
  rw [run_succ, tbl_l1_num]
  unfold T_l1_num l1_num_0
  simp (implicitDefEqProofs := false) (disch := omega)
theorem round_w {c : Nat} {h : H} {v0 v1 v2 v3 tv v5 v7 : V} {ts : List Str} {j : Nat} {K3 : KX} {n : Nat} (T : TX c h tv ts) (hj : j < ts.length) (hB : ∀ t ∈ ts, t.length ≤ maxB)
    (K : ∀ h' w, Fz 0 h.next MJ h h' → K3 X.n (f8 v0 v1 v2 v3 tv v5 (wz j) w) h' = true) : l1_JsonReads_14 (run tbl (n + 40)) big (f8 v0 v1 v2 v3 tv v5 (wz j) v7) h K3 = true := by
  obtain ⟨hl, a1, a2⟩ := T.at hj
  unfold l1_JsonReads_14
  simp (implicitDefEqProofs := false) (disch := omega) [a1, a2]
  refine Read_w (n := n + 6) (hB _ (List.getElem_mem hj)) fun h1 u S1 ra re E1 => ?_
  obtain ⟨ok, okl⟩ := P.Read_ok ts[j]
  have nx1 := E1.nx
  have T1 := T.fz E1 (Nat.le_refl _) ⟨by simp, by simp⟩
  obtain ⟨_, _, b2⟩ := T1.at hj
  simp (implicitDefEqProofs := false) (disch := omega) [a1, b2]
  refine rRead_w (n := n + 15) (hB _ (List.getElem_mem hj)) fun h2 w S2 _ _ E2 => ?_
  have nx2 := E2.nx
  have S12 := S1.fz E2 (Nat.le_refl _) (by decide)
  unfold l1_JsonReads_12 l1_JsonReads_13
  have eqs : ∀ k : KV, (∀ h', Ex h2 h' → k (.t true) h' = true) → run tbl (n + 40) Nf_z_EqJsons (vl [u, w]) h2 k = true := fun k hk => EqJsons_t (n := n + 37) S12.sl S2.sl okl (fun x hx => ⟨Nat.le_trans (ok x hx).1 (by decide), Nat.le_trans (ok x hx).2 (by decide)⟩) hk
  have nm := fun z h k => num_eq (n := n + 39) z h k
  simp (implicitDefEqProofs := false) (disch := omega) [nm]
  refine eqs _ fun h3 E3 => ?_
  have S13 := S12.fz E3 (Nat.le_refl _) (by decide)
  have nx3 := E3.nx
  simp (implicitDefEqProofs := false) (disch := omega)
  refine Jsons_w (n := n + 38) S13 okl (fun x hx => Nat.le_trans (ok x hx).2 (by decide)) fun h4 F4 => ?_
  refine K h4 _ ?_
  have F02 : Fz 0 h.next MJ h h3 := ((((Fz.refl 0 h.next MJ h).trans E1 (Nat.zero_le _) (Nat.le_refl _) (by simp))).trans E2 (Nat.zero_le _) nx1 (by simp)).trans E3 (Nat.zero_le _) (by omega) (by simp)
  exact F02.trans F4 (Nat.le_refl _) (by omega) (fun _ k => k)
end Go.Bvm.JN
set_option linter.unusedVariables false
set_option linter.unusedSimpArgs false
set_option maxRecDepth 20000
namespace Go.Bvm.JN
open Go.Bvm
@[simp] theorem quoV_z {a b : Int} (k : V → Bool) (ha : 0 ≤ a ∧ a < 9223372036854775808) (hb : 0 < b ∧ b < 9223372036854775808) : quoV (wz a) (wz b) k = k (wz (a / b)) := by
  obtain ⟨x, rfl⟩ := Int.eq_ofNat_of_zero_le ha.1
  obtain ⟨y, rfl⟩ := Int.eq_ofNat_of_zero_le (show 0 ≤ b by omega)
  have hbi : bias = 9223372036854775808 := rfl
  unfold wz
  obtain ⟨m, hm⟩ : ∃ m, m = ((x : Int) + 9223372036854775808).toNat := ⟨_, rfl⟩
  obtain ⟨m2, hm2⟩ : ∃ m2, m2 = ((y : Int) + 9223372036854775808).toNat := ⟨_, rfl⟩
  rw [← hm, ← hm2]
  show both (Nat.ble bias m) (both (Nat.ble (bias + 1) m2) (k (.w ((m - bias) / (m2 - bias) + bias)))) = _
  have e1 : m - bias = x := by omega
  have e2 : m2 - bias = y := by omega
  rw [ble_dec, ble_dec, bothd (by omega), bothd (by omega), e1, e2]
  congr 2
@[simp] theorem remV_z {a b : Int} (k : V → Bool) (ha : 0 ≤ a ∧ a < 9223372036854775808) (hb : 0 < b ∧ b < 9223372036854775808) : remV (wz a) (wz b) k = k (wz (a % b)) := by
  obtain ⟨x, rfl⟩ := Int.eq_ofNat_of_zero_le ha.1
  obtain ⟨y, rfl⟩ := Int.eq_ofNat_of_zero_le (show 0 ≤ b by omega)
  have hbi : bias = 9223372036854775808 := rfl
  unfold wz
  obtain ⟨m, hm⟩ : ∃ m, m = ((x : Int) + 9223372036854775808).toNat := ⟨_, rfl⟩
  obtain ⟨m2, hm2⟩ : ∃ m2, m2 = ((y : Int) + 9223372036854775808).toNat := ⟨_, rfl⟩
  rw [← hm, ← hm2]
  show both (Nat.ble bias m) (both (Nat.ble (bias + 1) m2) (k (.w ((m - bias) % (m2 - bias) + bias)))) = _
  have e1 : m - bias = x := by omega
  have e2 : m2 - bias = y := by omega
  rw [ble_dec, ble_dec, bothd (by omega), bothd (by omega), e1, e2]
  congr 2
theorem wrap_u64 {a : Int} (h : 0 ≤ a ∧ a < 18446744073709551616) : IntKind.wrap .u64 a = a := by
  unfold IntKind.wrap
  simp [IntKind.bits, IntKind.signed]
  omega
theorem wrap_i64 {a : Int} (h : 0 ≤ a ∧ a < 9223372036854775808) : IntKind.wrap .i64 a = a := by
  unfold IntKind.wrap
  simp [IntKind.bits, IntKind.signed]
  omega
theorem Within_eq {a b : Int} (ha : 0 ≤ a ∧ a < 9223372036854775808) (hb : 0 < b ∧ b < 9223372036854775808) {n : Nat} (h : H) (k : KV) : run tbl (n + 1) Nf_l0_Within (vl [wz a, wz b]) h k = k (wz (a % b)) h := by
  have t1 : ∀ {z : Int} (k : V → Bool), 0 ≤ z ∧ z < 9223372036854775808 → toI .u64 (wz z) k = k (mkI .u64 z) := by
    intro z k hz
    show k (mkI .u64 (IntKind.wrap .u64 (((z + 9223372036854775808).toNat : Int) - 9223372036854775808))) = _
    have : (((z + 9223372036854775808).toNat : Int) - 9223372036854775808) = z := by omega
    rw [this, wrap_u64 (by omega)]
  have t2 : ∀ k : V → Bool, remV (mkI .u64 a) (mkI .u64 b) k = k (mkI .u64 (a.tmod b)) := by
    intro k
    show both true (both true (both (decide (IntKind.u64 = IntKind.u64)) (bs (decide (b = 0)) false (k (mkI .u64 (a.tmod b)))))) = _
    rw [show decide (b = 0) = false from decide_eq_false (by omega)]
    rfl
  have t3 : a.tmod b = a % b := Int.tmod_eq_emod_of_nonneg ha.1
  have m0 := Int.emod_nonneg a (show b ≠ 0 by omega)
  have m1 := Int.emod_lt_of_pos a hb.1
  have t4 : ∀ k : V → Bool, toW (mkI .u64 (a % b)) k = k (wz (a % b)) := by
    intro k
    show k (.w ((IntKind.wrap .i64 (a % b) + 9223372036854775808).toNat)) = _
    rw [wrap_i64 (by omega)]
    rfl
  rw [run_succ, tbl_l0_Within]
  unfold T_l0_Within l0_Within_0
  simp (implicitDefEqProofs := false) (disch := omega) [t1 _ ha, t1 _ ⟨by omega, hb.2⟩, t2, t3, t4]
theorem Texts_w {W : List Nat} {h : H} {v : V} {xs : List Str} {k : KV} (A : Sl W h v xs) {n : Nat} (K : ∀ t : Int, 0 ≤ t → t ≤ 281474976710656 → (t < 1048576 → ∀ s ∈ xs, s.length ≤ t) → k (wz t) h = true) : run tbl (n + 1) Nf_l0_Texts (vl [v]) h k = true := by
  have hbd := A.bd
  have hm : maxB = 140737488355328 := rfl
  rw [run_succ, tbl_l0_Texts]
  unfold T_l0_Texts l0_Texts_5 l0_Texts_3
  simp (implicitDefEqProofs := false) (disch := omega) [A.lenL]
  refine loop_w (fun m e h' => ∃ (i : Nat) (t : Int), m = (1048577 - i) ∧ i ≤ xs.length ∧ i ≤ 1048576 ∧ e = f8 (wz 0) (wz i) v (wz t) V.u V.u V.u V.u ∧ h' = h ∧ (xs.length : Int) ≤ t ∧ t ≤ 281474976710656 ∧ (∀ s ∈ xs.take i, (s.length : Int) ≤ t) ∧ (1 ≤ i → i ≤ xs.length)) ?_ big 1048577 _ _ ⟨0, xs.length, rfl, by omega, by omega, rfl, rfl, Int.le_refl _, by omega, by simp, by omega⟩ (by unfold big; omega)
  rintro m e h1 ⟨i, t, rfl, hi, hi6, rfl, rfl, ht0, ht1, hall, _⟩ K' Kn Kx Kr
  unfold l0_Texts_0
  have stop : (∀ s ∈ xs, t < 1048576 → (s.length : Int) ≤ t) → K' (X.x 0) (f8 (wz 0) (wz i) v (wz t) V.u V.u V.u V.u) h1 = true := by
    intro hs
    refine Kx _ _ _ ?_
    unfold l0_Texts_4
    simp (implicitDefEqProofs := false) (disch := omega)
    exact K t (by omega) ht1 fun q s hm => hs s hm q
  by_cases hi2 : i < xs.length
  · have hi3 : (i : Int) < xs.length := by omega
    by_cases ht : t < 1048576
    · obtain ⟨ra, L⟩ := at_Str A hi2
      unfold l0_Texts_1 l0_Texts_2
      simp (implicitDefEqProofs := false) (disch := omega) [A.lenL, hi3, ht, L]
      refine Kn _ _ _ (by omega) ⟨i + 1, t + xs[i].length, rfl, by omega, by omega, by simp, rfl, by omega, by omega, fun s hs => ?_, by omega⟩
      rw [List.take_succ_eq_append_getElem hi2] at hs
      rcases List.mem_append.1 hs with q | q
      · have := hall s q; omega
      · simp only [List.mem_cons, List.not_mem_nil, or_false] at q
        rw [q]; omega
    · have := stop fun s _ q => absurd q ht
      simp (implicitDefEqProofs := false) (disch := omega) [A.lenL, hi3, ht]
      exact this
  · have hi3 : ¬ (i : Int) < xs.length := by omega
    have := stop fun s hs _ => hall s (by rw [List.take_of_length_le (by omega)]; exact hs)
    simp (implicitDefEqProofs := false) (disch := omega) [A.lenL, hi3]
    exact this
end Go.Bvm.JN
set_option linter.unusedVariables false
set_option linter.unusedSimpArgs false
set_option maxRecDepth 20000
namespace Go.Bvm.JN
open Go.Bvm
def JF : Type := api_Json
instance : Enc JF := ⟨5, Ty_api_Json, [0, kR Ty_string, kO Ty_string, kR Ty_int, kO Ty_int], fun X h c (x : api_Json) => ∃ v1 v2, c = [wz x.Kind, wz x.N, vs x.S, v1, v2] ∧ inR x.Kind ∧ inR x.N ∧ x.S.length ≤ maxB ∧ Sl X h v1 x.Keys ∧ Sl X h v2 x.Parts, fun r => by obtain ⟨v1, v2, e, f0, f1, f2, f3, f4⟩ := r; rw [e]; rfl, fun r n1 F => by obtain ⟨v1, v2, e, f0, f1, f2, f3, f4⟩ := r; exact ⟨v1, v2, e, f0, f1, f2, f3.gx n1 fun id a b c => F id a b (mem_of c (by decide)), f4.gx n1 fun id a b c => F id a b (mem_of c (by decide))⟩, fun r hx => by obtain ⟨v1, v2, e, f0, f1, f2, f3, f4⟩ := r; exact ⟨v1, v2, e, f0, f1, f2, f3.xm hx, f4.xm hx⟩⟩
instance : Enc (List JF) := ⟨1, Ty_Sl_api_Json, [0, kR Ty_api_Json, kO Ty_api_Json, kR Ty_string, kO Ty_string, kR Ty_int, kO Ty_int], fun X h c x => ∃ v, c = [v] ∧ Sl X h v x, fun r => by obtain ⟨v, e, f0⟩ := r; rw [e]; rfl, fun r n1 F => by obtain ⟨v, e, f0⟩ := r; exact ⟨v, e, f0.gx n1 fun id a b c => F id a b (mem_of c (by decide))⟩, fun r hx => by obtain ⟨v, e, f0⟩ := r; exact ⟨v, e, f0.xm hx⟩⟩
theorem Sl.eqV {α : Type} [Enc α] {X : List Nat} {h : H} {v : V} {xs : List α} (S : Sl X h v xs) : Go.Bvm.eqV v v = true := by
  obtain ⟨cs, ⟨_, _, ⟨rfl, _⟩ | ⟨id, off, ver, frz, ex, own, l, rfl, _⟩⟩, _⟩ := S
  · rfl
  · exact eqV_sl _ _ _ _ _
theorem eqV_vs (s : Str) : eqV (vs s) (vs s) = true := by
  show both (Nat.beq s.length s.length) (Nat.beq (pack s) (pack s)) = true
  rw [beq_dec, beq_dec, bothd rfl]; simp
theorem JsonsWeight_w {W : List Nat} {h : H} {v : V} {xs : List JF} {k : KV} (A : Sl W h v xs) {n : Nat} (K : ∀ t : Int, 0 ≤ t → t ≤ 1125899906842624 → k (wz t) h = true) : run tbl (n + 2) Nf_l0_JsonsWeight (vl [v]) h k = true := by
  have hbd := A.bd
  have hm : maxB = 140737488355328 := rfl
  rw [run_succ, tbl_l0_JsonsWeight]
  unfold T_l0_JsonsWeight l0_JsonsWeight_5 l0_JsonsWeight_3
  simp (implicitDefEqProofs := false) (disch := omega) [A.lenL]
  refine loop_w (fun m e h' => ∃ (i : Nat) (t : Int), m = (1048577 - i) ∧ i ≤ xs.length ∧ i ≤ 1048576 ∧ e = f8 (wz 0) (wz i) v (wz t) V.u V.u V.u V.u ∧ h' = h ∧ (xs.length : Int) ≤ t ∧ t ≤ 1125899906842624) ?_ big 1048577 _ _ ⟨0, xs.length, rfl, by omega, by omega, rfl, rfl, Int.le_refl _, by omega⟩ (by unfold big; omega)
  rintro m e h1 ⟨i, t, rfl, hi, hi6, rfl, rfl, ht0, ht1⟩ K' Kn Kx Kr
  unfold l0_JsonsWeight_0
  have stop : K' (X.x 0) (f8 (wz 0) (wz i) v (wz t) V.u V.u V.u V.u) h1 = true := by
    refine Kx _ _ _ ?_
    unfold l0_JsonsWeight_4
    simp (implicitDefEqProofs := false) (disch := omega)
    exact K t (by omega) ht1
  by_cases hi2 : i < xs.length
  · have hi3 : (i : Int) < xs.length := by omega
    by_cases ht : t < 1048576
    · obtain ⟨c, E, a1, a2, a3⟩ := A.at (i := (i : Int)) (Int.natCast_nonneg i) (getE? (show (i : Int).toNat < xs.length from hi2))
      obtain ⟨x, hx⟩ : ∃ x : api_Json, x = xs[i] := ⟨_, rfl⟩
      have E' : ∃ v1 v2, c = [wz x.Kind, wz x.N, vs x.S, v1, v2] ∧ inR x.Kind ∧ inR x.N ∧ x.S.length ≤ maxB ∧ Sl W h1 v1 x.Keys ∧ Sl W h1 v2 x.Parts := by rw [hx]; exact E
      obtain ⟨v1, v2, rfl, f0, f1, f2, f3, f4⟩ := E'
      have hpb := f4.bd
      have a1' : ∀ k, iadV 5 v (wz (i : Int)) k = k (pel v (i : Int) 0) := a1
      have l4 : ∀ k, ld1 (pel v (i : Int) 4) h1 k = k v2 := fun k => a2 4 k (by decide)
      have l2 : ∀ k, ld1 (pel v (i : Int) 2) h1 k = k (vs x.S) := fun k => a2 2 k (by decide)
      have l3 : ∀ k, ld1 (pel v (i : Int) 3) h1 k = k v1 := fun k => a2 3 k (by decide)
      unfold l0_JsonsWeight_1 l0_JsonsWeight_2
      simp (implicitDefEqProofs := false) (disch := omega) [A.lenL, hi3, ht, a1', l4, l2, l3, f4.lenL]
      refine Texts_w (n := n) f3 fun u hu0 hu1 _ => ?_
      simp (implicitDefEqProofs := false) (disch := omega) [l4, l2, Sl.eqV f4, eqV_vs]
      exact Kn _ _ _ (by omega) ⟨i + 1, t + x.Parts.length + (x.S.length : Int) / 8 + u / 8, rfl, by omega, by omega, by simp, rfl, by omega, by omega⟩
    · simp (implicitDefEqProofs := false) (disch := omega) [A.lenL, hi3, ht]
      exact stop
  · have hi3 : ¬ (i : Int) < xs.length := by omega
    simp (implicitDefEqProofs := false) (disch := omega) [A.lenL, hi3]
    exact stop
theorem Ask_ld {h : H} {p : Nat} {a b c : V} (B : Bk h p 0 0 Ty_amanuensislaw1_Ask true true [a, b, c]) : (∀ k, ld1 (.p p 0 3 0) h k = k a) ∧ (∀ k, ld1 (.p p 1 3 0) h k = k b) ∧ (∀ k, ld1 (.p p 2 3 0) h k = k c) ∧ ∀ k, lda 3 (.p p 0 3 0) h k = k (.x .agg (vl [a, b, c]) V.nil) :=
  ⟨fun k => B.ld (n := 3) rfl (by decide) (by decide) k, fun k => B.ld (n := 3) rfl (by decide) (by decide) k, fun k => B.ld (n := 3) rfl (by decide) (by decide) k, fun k => (B.lda (n := 3) (l := [a, b, c]) rfl (by simp) (by decide) k).trans rfl⟩
theorem cellsOf_w {W : List Nat} {h : H} {a b c : V} {S Q : List Str} {k : KV} (A : Sl W h a S) (C : Sl W h c Q) {n : Nat} (K : ∀ (h' : H) (t u : Int), Ex h h' → 0 ≤ t → t ≤ 281474976710656 → 0 ≤ u → u ≤ 281474976710656 → (t < 1048576 → ∀ s ∈ S, s.length ≤ t) → k (wz (t / 4 + u)) h' = true) : run tbl (n + 2) Nf_l1_cellsOf (vl [.x .agg (vl [a, b, c]) V.nil]) h k = true := by
  rw [run_succ, tbl_l1_cellsOf]
  unfold T_l1_cellsOf l1_cellsOf_0
  simp (implicitDefEqProofs := false) (disch := omega)
  refine newA_w rfl (by decide) (by decide) fun h1 n1 B1 x1 => ?_
  have E1 : Ex h h1 := x1.ex (Nat.le_refl _)
  obtain ⟨L0, L1, L2, LA⟩ := Ask_ld B1
  have A1 := A.fz E1 (Nat.le_refl _) (by decide)
  have C1 := C.fz E1 (Nat.le_refl _) (by decide)
  simp (implicitDefEqProofs := false) (disch := omega) [L0, L2]
  refine Texts_w (n := n) A1 fun t t0 t1 t2 => ?_
  simp (implicitDefEqProofs := false) (disch := omega) [L2, Sl.eqV C1]
  refine Texts_w (n := n) C1 fun u u0 u1 u2 => ?_
  have := K h1 t u E1 t0 t1 u0 u1 t2
  simp (implicitDefEqProofs := false) (disch := omega)
  exact this
theorem Heavy_w {W : List Nat} {h : H} {a b c : V} {S Q : List Str} {L : List (List JF)} {k : KV} (A : Sl W h a S) (B : Sl W h b L) (C : Sl W h c Q) {n : Nat} (K : ∀ (h' : H) (r : Bool), Ex h h' → (r = false → ∀ s ∈ S, s.length ≤ 20000) → k (.t r) h' = true) : run tbl (n + 3) Nf_l1_Heavy (vl [.x .agg (vl [a, b, c]) V.nil]) h k = true := by
  have hbd := B.bd
  have hm : maxB = 140737488355328 := rfl
  rw [run_succ, tbl_l1_Heavy]
  unfold T_l1_Heavy l1_Heavy_5
  simp (implicitDefEqProofs := false) (disch := omega)
  refine newA_w rfl (by decide) (by decide) fun h1 n1 B1 x1 => ?_
  have E1 : Ex h h1 := x1.ex (Nat.le_refl _)
  obtain ⟨L0, L1, L2, LA⟩ := Ask_ld B1
  have A1 := A.fz E1 (Nat.le_refl _) (by decide)
  have C1 := C.fz E1 (Nat.le_refl _) (by decide)
  have D1 := B.fz E1 (Nat.le_refl _) (by decide)
  have hn1 : h1.next = h.next + 1 := n1
  simp (implicitDefEqProofs := false) (disch := omega) [L1, LA, D1.lenL]
  refine cellsOf_w (n := n) A1 C1 fun h2 t u E2 t0 t1 u0 u1 t2 => ?_
  have D2 := D1.fz E2 (Nat.le_refl _) (by decide)
  have B2 := B1.fz E2 (by omega) (by decide)
  obtain ⟨M0, M1, M2, MA⟩ := Ask_ld B2
  have E02 : Ex h h2 := E1.loc E2 (by omega) (by omega)
  simp (implicitDefEqProofs := false) (disch := omega) [M1, Sl.eqV D2]
  unfold l1_Heavy_3
  simp (implicitDefEqProofs := false) (disch := omega)
  refine loop_w (fun m e h' => ∃ (i : Nat) (z : Int), m = (1048577 - i) ∧ i ≤ L.length ∧ i ≤ 1048576 ∧ e = f8 (.t false) (wz i) (.p h.next 0 3 0) (wz z) V.u V.u V.u V.u ∧ h' = h2 ∧ (L.length : Int) + (t / 4 + u) ≤ z ∧ z ≤ 4503599627370496) ?_ big 1048577 _ _ ⟨0, (L.length : Int) + (t / 4 + u), rfl, by omega, by omega, by simp, rfl, Int.le_refl _, by omega⟩ (by unfold big; omega)
  rintro m e h3 ⟨i, z, rfl, hi, hi6, rfl, rfl, hz0, hz1⟩ K' Kn Kx Kr
  unfold l1_Heavy_0
  have stop : K' (X.x 0) (f8 (.t false) (wz i) (.p h.next 0 3 0) (wz z) V.u V.u V.u V.u) h3 = true := by
    refine Kx _ _ _ ?_
    unfold l1_Heavy_4
    have := K h3 (decide (3000 < z)) E02 fun e s hs => by
      have e' : ¬ 3000 < z := of_decide_eq_false e
      have := t2 (by omega) s hs
      omega
    simp (implicitDefEqProofs := false) (disch := omega)
    exact this
  by_cases hi2 : i < L.length
  · have hi3 : (i : Int) < L.length := by omega
    by_cases hzz : z < 1048576
    · obtain ⟨cl, ⟨w, rfl, D3⟩, a1, a2, a3⟩ := D2.at (i := (i : Int)) (Int.natCast_nonneg i) (getE? (show (i : Int).toNat < L.length from hi2))
      have a1' : ∀ k, iadV 1 b (wz (i : Int)) k = k (pel b (i : Int) 0) := a1
      have l0 : ∀ k, ld1 (pel b (i : Int) 0) h3 k = k w := fun k => a2 0 k (by decide)
      unfold l1_Heavy_1 l1_Heavy_2
      simp (implicitDefEqProofs := false) (disch := omega) [M1, D2.lenL, hi3, hzz, a1', l0]
      refine JsonsWeight_w (n := n) D3 fun g g0 g1 => ?_
      simp (implicitDefEqProofs := false) (disch := omega)
      exact Kn _ _ _ (by omega) ⟨i + 1, z + g, rfl, by omega, by omega, by simp, rfl, by omega, by omega⟩
    · simp (implicitDefEqProofs := false) (disch := omega) [M1, D2.lenL, hi3, hzz]
      exact stop
  · have hi3 : ¬ (i : Int) < L.length := by omega
    simp (implicitDefEqProofs := false) (disch := omega) [M1, D2.lenL, hi3]
    exact stop
end Go.Bvm.JN
set_option linter.unusedVariables false
set_option linter.unusedSimpArgs false
set_option maxRecDepth 20000
namespace Go.Bvm.JN
open Go.Bvm
theorem TX.lit {c : Nat} {h : H} {id n : Nat} {ts : List Str} {k : KV} (hn : ts.length = n) (hc : c ≤ id) (hi : id < h.next) (hl : ∀ t ∈ ts, t.length ≤ maxB + 10) (hs : ts.length ≤ 1000) (K : ∀ h' v, TX c h' v ts → h'.next = h.next → Only h h' id → k v h' = true) : bslA id n 1 Ty_string (vl (ts.map vs)) h k = true := by
  refine bslA_w (by simp [hn]) (by simp; omega) fun h1 n1 B1 o1 => ?_
  refine K h1 _ ⟨hl, hs, id, 0, true, by rw [hn], hc, by omega, B1⟩ n1 o1
theorem TX.app {c : Nat} {h : H} {v : V} {ts : List Str} {x : Str} {k : KV} (T : TX c h v ts) (hx : x.length ≤ maxB + 10) (hl : ts.length < 1000) (hc : c ≤ h.next) (K : ∀ h' w, TX c h' w (ts ++ [x]) → Fz c c [] h h' → k w h' = true) : bslA h.next 1 1 Ty_string (vl [vs x]) ⟨h.next + 1, h.tr⟩ (fun v' h1 => app 1 Ty_string v v' h1 k) = true := by
  obtain ⟨t1, t2, id, ver, ex, rfl, hci, hi, B⟩ := T
  refine bslA_w (by simp) (by simp) fun h1 n1 B1 o1 => ?_
  have n1' : h1.next = h.next + 1 := n1
  have B2 := B.only (h' := h1) (id := h.next) ⟨by omega, o1.2⟩ (by omega)
  refine app_row_w B1 B2 (by decide) (by decide) (by simp) (by simp) (by simp; omega) fun h2 n2 b2 o2 => ?_
  refine K h2 _ ⟨fun t ht => ?_, by simp; omega, id, ver + 1, false, by simp, hci, by omega, by simpa using b2⟩ ⟨by omega, fun j hj => ?_, fun j hj _ => ?_⟩
  · rcases List.mem_append.1 ht with q | q
    · exact t1 t q
    · simp only [List.mem_cons, List.not_mem_nil, or_false] at q
      rw [q]; exact hx
  · rw [o2.2 j (by omega), o1.2 j (by omega)]
  · rw [o2.2 j (by omega), o1.2 j (by omega)]
noncomputable abbrev fj (i : Nat) (q : Nat) (k : Nat) (tv v5 v6 v7 : V) : L8 := f8 (.t false) (wz i) (.p q 0 3 0) (wz k) tv v5 v6 v7
theorem text_round {h0 h : H} {q i k : Nat} {a b c tv v5 v6 v7 : V} {S Q : List Str} {ts : List Str} {n : Nat} {K3 : KX} (B : Bk h q 0 0 Ty_amanuensislaw1_Ask true true [a, b, c]) (A : Sl [] h a S) (C : Sl [] h c Q) (hi : i < S.length) (hi6 : i < 6) (hk : k < 14) (h0s : 0 < S[i].length) (hs : S[i].length ≤ 20000) (T : TX h0.next h tv ts) (hts : ts.length ≤ 20) (hh : h0.next ≤ h.next)
    (K : ∀ h' w u x, TX h0.next h' w (ts ++ [x]) → x.length ≤ 20001 → Fz h0.next h0.next [] h h' → K3 X.n (fj i q k w u v6 v7) h' = true) : l1_JsonReads_8 (run tbl (n + 40)) big (fj i q k tv v5 v6 v7) h K3 = true := by
  obtain ⟨L0, L1, L2, LA⟩ := Ask_ld B
  obtain ⟨_, a1, a2⟩ := at_Str A hi
  have hq := C.bd
  have hm : maxB = 140737488355328 := rfl
  obtain ⟨s, hsd⟩ : ∃ s, s = S[i] := ⟨_, rfl⟩
  rw [← hsd] at a2 h0s hs
  have hmul : (k : Int) * s.length ≤ 14 * s.length := Int.mul_le_mul_of_nonneg_right (by omega) (by omega)
  have hmul0 : 0 ≤ (k : Int) * s.length := Int.mul_nonneg (by omega) (by omega)
  obtain ⟨z, hz⟩ : ∃ z : Int, z = (k : Int) * s.length / 14 + Q.length := ⟨_, rfl⟩
  obtain ⟨w, hw⟩ : ∃ w : Int, w = z % s.length := ⟨_, rfl⟩
  have w0 : 0 ≤ w := by rw [hw]; exact Int.emod_nonneg _ (by omega)
  have w1 : w < s.length := by rw [hw]; exact Int.emod_lt_of_pos _ (by omega)
  have hwi : ∀ k2 : KV, run tbl (n + 40) Nf_l0_Within (vl [wz ((k : Int) * s.length / 14 + Q.length), wz s.length]) h k2 = k2 (wz w) h := fun k2 => by
    have := Within_eq (a := (k : Int) * s.length / 14 + Q.length) (b := s.length) ⟨by omega, by omega⟩ ⟨by omega, by omega⟩ (n := n + 39) h k2
    rw [this, hw, hz]
  have put : ∀ (h2 : H) (x : Str), x.length ≤ 20001 → TX h0.next h2 tv ts → Fz h0.next h0.next [] h h2 → h0.next ≤ h2.next → l1_JsonReads_7 (run tbl (n + 40)) big (fj i q k tv (vs x) v6 v7) h2 K3 = true := by
    intro h2 x hx T2 F2 hh2
    unfold l1_JsonReads_7
    simp (implicitDefEqProofs := false) (disch := omega)
    refine T2.app (x := x) (by omega) (by omega) hh2 fun h3 u T3 F3 => ?_
    exact K h3 u (vs x) x T3 hx (F2.trans F3 (Nat.le_refl _) (Nat.le_refl _) (fun _ k => k))
  have wn : (w.toNat : Int) = w := by omega
  have hwt : w.toNat < s.length := by omega
  unfold l1_JsonReads_8 l1_JsonReads_6
  simp (implicitDefEqProofs := false) (disch := omega) [L0, L2, a1, a2, C.lenL, hwi]
  unfold l1_JsonReads_5
  have l1 : (s.take w.toNat).length = w.toNat := by rw [List.length_take]; omega
  have l2 : (s.drop (w + 1).toNat).length = s.length - (w.toNat + 1) := by rw [List.length_drop]; omega
  have l3 : (s.drop w.toNat).length = s.length - w.toNat := by rw [List.length_drop]
  by_cases c0 : (k : Int) % 4 = 0
  · have := put h (s.take w.toNat ++ s.drop (w + 1).toNat) (by rw [List.length_append]; omega) T (Fz.refl _ _ _ _) hh
    simp (implicitDefEqProofs := false) (disch := omega) [c0]
    exact this
  · unfold l1_JsonReads_4
    by_cases c1 : (k : Int) % 4 = 1
    · obtain ⟨m, hm2⟩ : ∃ m, m = (s.drop w.toNat).take ((w + 1).toNat - w.toNat) := ⟨_, rfl⟩
      have l4 : m.length ≤ 1 := by rw [hm2, List.length_take]; omega
      have l5 : (s.take w.toNat ++ m).length ≤ 20001 := by rw [List.length_append]; omega
      have := put h (s.take w.toNat ++ m ++ s.drop w.toNat) (by rw [List.length_append, List.length_append]; omega) T (Fz.refl _ _ _ _) hh
      rw [List.append_assoc] at this
      simp (implicitDefEqProofs := false) (disch := omega) [c0, c1, ← hm2]
      exact this
    · by_cases c2 : (k : Int) % 4 = 2
      · unfold l1_JsonReads_3
        have j0 : 0 ≤ ((k : Int) + i) % 8 := Int.emod_nonneg _ (by decide)
        have j1 : ((k : Int) + i) % 8 < 8 := Int.emod_lt_of_pos _ (by decide)
        obtain ⟨j, hj⟩ : ∃ j : Nat, ((k : Int) + i) % 8 = j := ⟨(((k : Int) + i) % 8).toNat, by omega⟩
        simp (implicitDefEqProofs := false) (disch := omega) [c0, c1, c2, hj]
        refine TX.lit (c := h0.next) (ts := [[34], [93], [125], [44], [48], [45], [32], [123]]) rfl hh (by show h.next < h.next + 1; omega) (fun t ht => ?_) (by decide) fun h2 u U n2 o2 => ?_
        · simp at ht
          rcases ht with e | e | e | e | e | e | e | e <;> (rw [e]; show 1 ≤ maxB + 10; decide)
        · have n2' : h2.next = h.next + 1 := n2
          have F2 : Fz h0.next h0.next [] h h2 := ⟨by omega, fun j hj => o2.2 j (by omega), fun j hj _ => o2.2 j (by omega)⟩
          have F2' : Fz 0 h.next [] h h2 := ⟨by omega, fun j hj => by omega, fun j hj _ => o2.2 j (by omega)⟩
          have hj8 : j < 8 := by omega
          obtain ⟨_, u1, u2⟩ := U.at (j := j) (by simpa using hj8)
          obtain ⟨y, hy⟩ : ∃ y : Str, y = ([[34], [93], [125], [44], [48], [45], [32], [123]] : List Str)[j]'(by simpa using hj8) := ⟨_, rfl⟩
          have hyl : y.length = 1 := by
            have : y ∈ ([[34], [93], [125], [44], [48], [45], [32], [123]] : List Str) := by rw [hy]; exact List.getElem_mem _
            simp at this
            rcases this with e | e | e | e | e | e | e | e <;> (rw [e]; rfl)
          rw [← hy] at u2
          have l4 : (s.take w.toNat ++ y).length ≤ 20001 := by rw [List.length_append]; omega
          have := put h2 (s.take w.toNat ++ y ++ s.drop (w + 1).toNat) (by rw [List.length_append, List.length_append]; omega) (T.fz F2' (Nat.le_refl _) ⟨by simp, by simp⟩) F2 (by omega)
          rw [List.append_assoc] at this
          simp (implicitDefEqProofs := false) (disch := omega) [u1, u2]
          exact this
      · have := put h (s.take w.toNat) (by omega) T (Fz.refl _ _ _ _) hh
        simp (implicitDefEqProofs := false) (disch := omega) [c0, c1, c2]
        exact this
end Go.Bvm.JN
set_option linter.unusedVariables false
set_option linter.unusedSimpArgs false
set_option maxRecDepth 20000
namespace Go.Bvm.JN
open Go.Bvm
noncomputable abbrev fi (i : Nat) (q : Nat) (c3 c4 c5 c6 c7 : V) : L8 := f8 (.t false) (wz i) (.p q 0 3 0) c3 c4 c5 c6 c7
theorem texts_loop {h0 h : H} {q i : Nat} {a b c tv c3 c5 c6 c7 : V} {S Q : List Str} {x0 : Str} {n : Nat} {K3 : KX} (B : Bk h q 0 0 Ty_amanuensislaw1_Ask true true [a, b, c]) (A : Sl [] h a S) (C : Sl [] h c Q) (hi : i < S.length) (hi6 : i < 6) (hs : S[i].length ≤ 20000) (T : TX h0.next h tv [x0]) (hx0 : x0.length ≤ 20001) (hh : h0.next ≤ h.next) (hq : q < h0.next)
    (hA : Sl [] h0 a S) (hC : Sl [] h0 c Q) (hB0 : Bk h0 q 0 0 Ty_amanuensislaw1_Ask true true [a, b, c]) (F : Fz h0.next h0.next [] h0 h)
    (K : ∀ h' w u v ts, TX h0.next h' w ts → (∀ t ∈ ts, t.length ≤ 20001) → ts.length ≤ 20 → Fz h0.next h0.next [] h0 h' → K3 X.n (fi i q v w u c6 c7) h' = true) : l1_JsonReads_10 (run tbl (n + 40)) big (fi i q c3 tv c5 c6 c7) h K3 = true := by
  unfold l1_JsonReads_10
  simp (implicitDefEqProofs := false) (disch := omega)
  refine loop_w (fun m e h' => ∃ (k : Nat) (w u : V) (ts : List Str), m = 15 - k ∧ k ≤ 14 ∧ e = fi i q (wz k) w u c6 c7 ∧ TX h0.next h' w ts ∧ (∀ t ∈ ts, t.length ≤ 20001) ∧ ts.length = k + 1 ∧ Fz h0.next h0.next [] h0 h') ?_ big 15 _ _ ⟨0, tv, c5, [x0], rfl, by omega, by simp, T, fun t ht => by simp at ht; rw [ht]; exact hx0, rfl, F⟩ (by decide)
  rintro m e h1 ⟨k, w, u, ts, rfl, hk, rfl, T1, hts, htl, F1⟩ K' Kn Kx Kr
  have A1 := hA.fz F1 (Nat.le_refl _) (by simp)
  have C1 := hC.fz F1 (Nat.le_refl _) (by simp)
  have B1 := hB0.fz F1 hq (by simp)
  obtain ⟨L0, L1, L2, LA⟩ := Ask_ld B1
  obtain ⟨hsl, a1, a2⟩ := at_Str A1 hi
  have hm : maxB = 140737488355328 := rfl
  have stop : K' (X.x 2) (fi i q (wz k) w u c6 c7) h1 = true := by
    refine Kx _ _ _ ?_
    simp (implicitDefEqProofs := false) (disch := omega)
    exact K h1 w u (wz k) ts T1 hts (by omega) F1
  unfold l1_JsonReads_2
  by_cases hk14 : k < 14
  · have hk2 : (k : Int) < 14 := by omega
    by_cases hs0 : 0 < S[i].length
    · have hs1 : (0 : Int) < (S[i].length : Int) := by omega
      simp (implicitDefEqProofs := false) (disch := omega) [L0, hk2, a1, a2, hs1, hs0]
      refine text_round B1 A1 C1 hi hi6 hk14 hs0 hs T1 (by omega) (by have := F1.nx; omega) fun h2 w2 u2 x T2 hx F2 => ?_
      unfold l1_JsonReads_9
      simp (implicitDefEqProofs := false) (disch := omega)
      refine Kn _ _ _ (by omega) ⟨k + 1, w2, u2, ts ++ [x], rfl, by omega, by simp, T2, fun t ht => ?_, by simp; omega, F1.trans F2 (Nat.le_refl _) (Nat.le_refl _) (fun _ k => k)⟩
      rcases List.mem_append.1 ht with z | z
      · exact hts t z
      · simp only [List.mem_cons, List.not_mem_nil, or_false] at z
        rw [z]; exact hx
    · have hs1 : ¬ (0 : Int) < (S[i].length : Int) := by omega
      simp (implicitDefEqProofs := false) (disch := omega) [L0, hk2, a1, a2, hs1, hs0]
      exact stop
  · have hk2 : ¬ (k : Int) < 14 := by omega
    simp (implicitDefEqProofs := false) (disch := omega) [hk2]
    exact stop
theorem rounds_loop {h0 h : H} {q i : Nat} {tv c3 c5 c6 c7 : V} {ts : List Str} {n : Nat} {K3 : KX} (T : TX h0.next h tv ts) (hts : ∀ t ∈ ts, t.length ≤ 20001) (htl : ts.length ≤ 20)
    (K : ∀ h' v w, Fz 0 h.next MJ h h' → K3 X.n (fi i q c3 tv c5 v w) h' = true) : l1_JsonReads_16 (run tbl (n + 40)) big (fi i q c3 tv c5 c6 c7) h K3 = true := by
  unfold l1_JsonReads_16
  simp (implicitDefEqProofs := false) (disch := omega)
  refine loop_w (fun m e h' => ∃ (j : Nat) (w : V), m = ts.length - j ∧ j ≤ ts.length ∧ e = fi i q c3 tv c5 (wz j) w ∧ Fz 0 h.next MJ h h') ?_ big ts.length _ _ ⟨0, c7, rfl, by omega, by simp, Fz.refl _ _ _ _⟩ (by unfold big; omega)
  rintro m e h1 ⟨j, w, rfl, hj, rfl, F1⟩ K' Kn Kx Kr
  have T1 := T.fz F1 (Nat.le_refl _) ⟨by decide, by decide⟩
  unfold l1_JsonReads_11
  by_cases hj2 : j < ts.length
  · have hj3 : (j : Int) < ts.length := by omega
    simp (implicitDefEqProofs := false) (disch := omega) [T1.lenL, hj3]
    refine round_w (n := n) T1 hj2 (fun t ht => Nat.le_trans (hts t ht) (by decide)) fun h2 w2 F2 => ?_
    unfold l1_JsonReads_15
    simp (implicitDefEqProofs := false) (disch := omega)
    exact Kn _ _ _ (by omega) ⟨j + 1, w2, rfl, by omega, by simp, F1.trans F2 (Nat.le_refl _) F1.nx (fun _ k => k)⟩
  · have hj3 : ¬ (j : Int) < ts.length := by omega
    simp (implicitDefEqProofs := false) (disch := omega) [T1.lenL, hj3]
    refine Kx _ _ _ ?_
    simp (implicitDefEqProofs := false) (disch := omega)
    exact K h1 _ _ F1
end Go.Bvm.JN
set_option linter.unusedVariables false
set_option linter.unusedSimpArgs false
set_option maxRecDepth 20000
namespace Go.Bvm.JN
open Go.Bvm
abbrev Pin (h : H) : Prop := hget Pg h.tr = .pin 0 0 0
theorem Pin.fz {c b : Nat} {M : List Nat} {h h' : H} (p : Pin h) (F : Fz c b M h h') (hb : Pg < b) (n : 1 ∉ M) : Pin h' := (F.hi Pg hb (by rw [show hget Pg h.tr = .pin 0 0 0 from p]; exact n)).trans p
theorem Wakes {n : Nat} {h : H} {k : KV} (p : Pin h) (K : k (.t true) h = true) : run tbl (n + 1) Nf_l1_wakes V.nil h k = true := by
  rw [run_succ, tbl_l1_wakes]
  show onPin (hget Pg h.tr) _ = true
  rw [show hget Pg h.tr = .pin 0 0 0 from p]
  exact K
theorem outer_loop {hB : H} {q : Nat} {a b c c3 c4 c5 c6 c7 : V} {S Q : List Str} {n : Nat} {K3 : KX} (B : Bk hB q 0 0 Ty_amanuensislaw1_Ask true true [a, b, c]) (A : Sl [] hB a S) (C : Sl [] hB c Q) (hq : q < hB.next) (hs : ∀ s ∈ S, s.length ≤ 20000)
    (K : ∀ h' e, Fz 0 hB.next MJ hB h' → K3 X.n e h' = true) : l1_JsonReads_19 (run tbl (n + 40)) big (f8 (.t false) V.u (.p q 0 3 0) c3 c4 c5 c6 c7) hB K3 = true := by
  unfold l1_JsonReads_19
  simp (implicitDefEqProofs := false) (disch := omega)
  refine loop_w (fun m e h' => ∃ (i : Nat) (v3 v4 v5 v6 v7 : V), m = 7 - i ∧ i ≤ 6 ∧ e = fi i q v3 v4 v5 v6 v7 ∧ Fz 0 hB.next MJ hB h') ?_ big 7 _ _ ⟨0, c3, c4, c5, c6, c7, rfl, by omega, by simp, Fz.refl _ _ _ _⟩ (by decide)
  rintro m e h ⟨i, v3, v4, v5, v6, v7, rfl, hi6, rfl, F⟩ K' Kn Kx Kr
  have nx := F.nx
  have A1 := A.fz F (Nat.le_refl _) (by decide)
  have C1 := C.fz F (Nat.le_refl _) (by decide)
  have B1 := B.fz F hq (by decide)
  obtain ⟨L0, L1, L2, LA⟩ := Ask_ld B1
  have stop : K' (X.x 0) (fi i q v3 v4 v5 v6 v7) h = true := by
    refine Kx _ _ _ ?_
    simp (implicitDefEqProofs := false) (disch := omega)
    exact K _ _ F
  unfold l1_JsonReads_1
  by_cases hi : i < S.length
  · have hi3 : (i : Int) < S.length := by omega
    by_cases hi5 : i < 6
    · have hi7 : (i : Int) < 6 := by omega
      obtain ⟨hsl, a1, a2⟩ := at_Str A1 hi
      have hsi := hs _ (List.getElem_mem hi)
      unfold l1_JsonReads_17
      simp (implicitDefEqProofs := false) (disch := omega) [L0, A1.lenL, hi3, hi7, a1, a2]
      refine TX.lit (c := h.next) (ts := [S[i]]) rfl (Nat.le_refl _) (by show h.next < h.next + 1; omega) (fun t ht => by simp at ht; rw [ht]; have : maxB = 140737488355328 := rfl; omega) (by simp) fun h1 w T1 n1 o1 => ?_
      have n1' : h1.next = h.next + 1 := n1
      have F1 : Fz h.next h.next [] h h1 := ⟨by omega, fun j hj => o1.2 j (by omega), fun j hj _ => o1.2 j (by omega)⟩
      refine texts_loop (h0 := h) (B1.fz F1 (by omega) (by simp)) (A1.fz F1 (Nat.le_refl _) (by simp)) (C1.fz F1 (Nat.le_refl _) (by simp)) hi hi5 hsi T1 (by omega) (by omega) (by omega) A1 C1 B1 F1 fun h2 w2 u2 k2 ts T2 hts htl F2 => ?_
      refine rounds_loop T2 hts htl fun h3 x3 y3 F3 => ?_
      unfold l1_JsonReads_18
      simp (implicitDefEqProofs := false) (disch := omega)
      have F02 : Fz 0 hB.next MJ hB h2 := F.trans F2 (Nat.zero_le _) nx (by simp)
      exact Kn _ _ _ (by omega) ⟨i + 1, k2, w2, u2, x3, y3, rfl, by omega, by simp, F02.trans F3 (Nat.le_refl _) F02.nx (fun _ k => k)⟩
    · have hi7 : ¬ (i : Int) < 6 := by omega
      simp (implicitDefEqProofs := false) (disch := omega) [L0, A1.lenL, hi3, hi7]
      exact stop
  · have hi3 : ¬ (i : Int) < S.length := by omega
    simp (implicitDefEqProofs := false) (disch := omega) [L0, A1.lenL, hi3]
    exact stop
theorem mkslA_w {h : H} {id elem N : Nat} {k : KV} (hN : N ≤ 16777216) (K : ∀ h', h'.next = h.next → Bk h' id 0 0 elem true true (List.replicate N (vy 0)) → Only h h' id → k (.sl id 0 N 0 1) h' = true) : mkslA id elem (vy 0) (wz N) (wz N) h k = true := by
  have hb : bias = 9223372036854775808 := rfl
  obtain ⟨m, hm⟩ : ∃ m, m = ((N : Int) + 9223372036854775808).toNat := ⟨_, rfl⟩
  have e1 : m - bias = N := by omega
  have e2 : Nat.sub m bias = N := e1
  have ix : ∀ f : Nat → Bool, onIx (wz N) f = f N := fun f => by
    unfold wz
    rw [← hm]
    show both (Nat.ble bias m) (f (Nat.sub m bias)) = _
    rw [ble_dec, bothd (by omega), e2]
  unfold mkslA
  rw [ix, ix, beq_dec, ble_dec, bothd rfl, bothd hN]
  have hac := acap_afill N (vy 0) (by omega)
  refine K _ rfl ⟨afill N (vy 0), ?_, ?_, fun j hj => ?_⟩ ⟨Nat.le_refl _, fun i q => ?_⟩
  · show hget id (hset id _ h.tr) = _
    rw [hget_hset _ _ _ _ (Nat.zero_le _) (Nat.zero_le _), if_pos rfl, List.length_replicate]
  · rw [List.length_replicate]; exact hac
  · rw [List.length_replicate] at hj
    rw [aget_afill _ _ _ (by omega), List.getElem_replicate]
  · show hget i (hset id _ h.tr) = _
    rw [hget_hset _ _ _ _ (Nat.zero_le _) (Nat.zero_le _), if_neg q]
theorem last_w {n : Nat} {h : H} {e : L8} {K3 : KX} (hp : Pin h) (hq : Pg < h.next) (K : ∀ h' f, f.c0.c0 = V.t true → K3 X.r f h' = true) : l1_JsonReads_20 (run tbl (n + 40)) big e h K3 = true := by
  unfold l1_JsonReads_20
  simp (implicitDefEqProofs := false) (disch := omega)
  refine mkslA_w (N := 3001) (by decide) fun h1 n1 B1 o1 => ?_
  have n1' : h1.next = h.next + 1 := n1
  have S1 : Sl [] h1 (.sl h.next 0 3001 0 1) (List.replicate 3001 (0 : UInt8)) := by
    refine ⟨List.replicate 3001 [vy 0], ⟨fun c hc => by rw [List.eq_of_mem_replicate hc]; rfl, by rw [List.length_replicate]; decide, .inr ⟨h.next, 0, 0, 0, true, true, _, by rw [List.length_replicate]; rfl, ⟨by omega, by simp⟩, B1.f, by rw [List.length_replicate, List.length_replicate]; decide, ?_⟩⟩, ⟨by rw [List.length_replicate, List.length_replicate], fun i c x e1 e2 => ?_⟩⟩
    · rw [List.length_replicate, List.drop_zero, List.take_of_length_le (by rw [List.length_replicate]; decide)]
      have : ∀ m : Nat, List.replicate m (vy 0) = (List.replicate m [vy 0]).flatten := fun m => by
        induction m with
        | zero => rfl
        | succ m ih => rw [List.replicate_succ, List.replicate_succ, List.flatten_cons, ← ih]; rfl
      exact this 3001
    · have h1 := List.eq_of_mem_replicate (List.mem_of_getElem? e1)
      have h2 := List.eq_of_mem_replicate (List.mem_of_getElem? e2)
      rw [h1, h2]; rfl
  rw [b2s_w S1 (by rw [List.length_replicate]; decide)]
  obtain ⟨s, hs⟩ : ∃ s : Str, s = List.replicate 3001 (0 : UInt8) := ⟨_, rfl⟩
  have hl : s.length = 3001 := by rw [hs, List.length_replicate]
  rw [← hs]
  have hR : P.Read s = ([], 0, 2) := by unfold P.Read; rw [if_pos (by omega)]
  refine Read_w (n := n + 6) (by rw [hl]; decide) fun h2 u _ _ _ E2 => ?_
  rw [hR]
  have nm := fun z h k => num_eq (n := n + 39) z h k
  simp (implicitDefEqProofs := false) (disch := omega) [nm]
  have hp1 : Pin h1 := (o1.2 Pg (by omega)).trans hp
  refine Wakes (n := n + 39) (hp1.fz E2 (by omega) (by decide)) ?_
  exact K _ _ rfl
theorem JsonReads_w {n : Nat} {h : H} {a b c : V} {S Q : List Str} {L : List (List JF)} {k : KV} (A : Sl [] h a S) (B : Sl [] h b L) (C : Sl [] h c Q) (hp : Pin h) (hq : Pg < h.next) (K : ∀ h', k (.t true) h' = true) : run tbl (n + 41) Nf_l1_JsonReads (vl [.x .agg (vl [a, b, c]) V.nil]) h k = true := by
  rw [run_succ, tbl_l1_JsonReads]
  unfold T_l1_JsonReads l1_JsonReads_21
  simp (implicitDefEqProofs := false) (disch := omega)
  refine newA_w rfl (by decide) (by decide) fun h1 n1 B1 x1 => ?_
  have E1 : Ex h h1 := x1.ex (Nat.le_refl _)
  have hn1 : h1.next = h.next + 1 := n1
  obtain ⟨L0, L1, L2, LA⟩ := Ask_ld B1
  have A1 := A.fz E1 (Nat.le_refl _) (by decide)
  have C1 := C.fz E1 (Nat.le_refl _) (by decide)
  have D1 := B.fz E1 (Nat.le_refl _) (by decide)
  unfold l1_JsonReads_0
  simp (implicitDefEqProofs := false) (disch := omega) [LA]
  refine Heavy_w (n := n + 37) A1 D1 C1 fun h2 r E2 hr => ?_
  cases r with
  | true =>
    simp (implicitDefEqProofs := false) (disch := omega)
    exact K _
  | false =>
    have A2 := A1.fz E2 (Nat.le_refl _) (by decide)
    have C2 := C1.fz E2 (Nat.le_refl _) (by decide)
    have B2 := B1.fz E2 (by omega) (by decide)
    simp (implicitDefEqProofs := false) (disch := omega)
    refine outer_loop (n := n) B2 A2 C2 (by have := E2.nx; omega) (hr rfl) fun h3 e3 F3 => ?_
    have hp2 : Pin h2 := (hp.fz E1 hq (by decide)).fz E2 (by omega) (by decide)
    have := E2.nx
    have := F3.nx
    refine last_w (hp2.fz F3 (by omega) (by decide)) (by omega) fun h4 f hf => ?_
    have := K h4
    rw [← hf] at this
    exact this
end Go.Bvm.JN
set_option linter.unusedVariables false
namespace Go.Bvm.JN
open Go.Bvm
theorem imp_str {w : World} (s : ByteArray) (hs : s.size ≤ maxB) : Imp w [.string s] (s.data.toList : Str) := by
  intro φ h R F
  have hl : s.data.toList.length = s.size := by simp
  refine ⟨φ, h, [vs s.data.toList], R, φ.le_refl, F, .refl h, ⟨rfl, fun j x v a b => ?_⟩, rfl, by rw [hl]; exact hs⟩
  cases j with
  | zero =>
    simp at a b
    subst a b
    refine ⟨?_, rfl⟩
    exact RV.s hl.symm rfl
  | succ j => simp at a
theorem imp_int {w : World} (z : Int) (hz : inR z) : Imp w [.int .i64 z] z := by
  intro φ h R F
  refine ⟨φ, h, [wz z], R, φ.le_refl, F, .refl h, ⟨rfl, fun j x v a b => ?_⟩, rfl, hz⟩
  cases j with
  | zero =>
    simp at a b
    subst a b
    refine ⟨?_, rfl⟩
    have : z = (((z + 9223372036854775808).toNat : Nat) : Int) - 9223372036854775808 := by omega
    have r := RV.w (φ := φ) (n := (z + 9223372036854775808).toNat) (by omega)
    rw [← this] at r
    exact r
  | succ j => simp at a
def ImpS {α : Type} [Enc α] (w : World) (v : Value) (xs : List α) : Prop := ∀ (φ : Phi) (h : H), Rel φ h w → FO h → ∃ φ' h' u, Rel φ' h' w ∧ φ.le φ' ∧ FO h' ∧ Keep h h' ∧ RV φ' u v ∧ Sl [] h' u xs
theorem impS_nil {α : Type} [Enc α] {w : World} : ImpS (α := α) w (.slice none 0 0) [] := fun φ h R F => ⟨φ, h, slnil, R, φ.le_refl, F, .refl h, .slnil, .nil _ _⟩
theorem impS_row {α : Type} [Enc α] {w : World} {a : Addr} {len cap : Nat} (hn : 1 ≤ Enc.n α) (hlc : len ≤ cap) (hcap : 0 < cap) (hr : ∀ i, i < cap → ∃ l, w.cells? 0 (a.add (i * Enc.n α)) (Enc.n α) = some l) {ls : List (List Value)} {xs : List α} (hls : ls.length = len) (hxs : xs.length = len) (hm : len ≤ maxB)
    (hl : ∀ (i : Nat) (l : List Value), ls[i]? = some l → w.cells? 0 (a.add (i * Enc.n α)) (Enc.n α) = some l) (hi : ∀ (i : Nat) (l : List Value) (x : α), ls[i]? = some l → xs[i]? = some x → Imp w l x) : ImpS w (.slice (some a) len cap) xs :=
  fun φ h R F => imp_row hn hlc hcap hr hls hxs hm hl hi φ h R F
theorem imp_cell {w : World} {v : Value} {xs : List JF} (I : ImpS w v xs) (h1 : v.oneCell' = true) : Imp w [v] xs := by
  intro φ h R F
  obtain ⟨φ', h', u, R', le, F', K, rv, S⟩ := I φ h R F
  refine ⟨φ', h', [u], R', le, F', K, ⟨rfl, fun j x y a b => ?_⟩, u, rfl, S⟩
  cases j with
  | zero =>
    simp at a b
    subst a b
    exact ⟨rv, h1⟩
  | succ j => simp at a
theorem imp_node {w : World} {kd nn : Int} {s : ByteArray} {v1 v2 : Value} {ks : List Str} {ps : List Int} (hk : inR kd) (hn : inR nn) (hs : s.size ≤ maxB) (K : ImpS w v1 ks) (P : ImpS w v2 ps) (o1 : v1.oneCell' = true) (o2 : v2.oneCell' = true) :
    Imp (α := JF) w [.int .i64 kd, .int .i64 nn, .string s, v1, v2] (⟨kd, nn, s.data.toList, ks, ps⟩ : api_Json) := by
  intro φ h R F
  obtain ⟨φ1, h1, u1, R1, le1, F1, K1, rv1, S1⟩ := K φ h R F
  obtain ⟨φ2, h2, u2, R2, le2, F2, K2, rv2, S2⟩ := P φ1 h1 R1 F1
  have int : ∀ z : Int, inR z → RV φ2 (wz z) (.int .i64 z) := fun z hz => by
    have : z = (((z + 9223372036854775808).toNat : Nat) : Int) - 9223372036854775808 := by omega
    have r := RV.w (φ := φ2) (n := (z + 9223372036854775808).toNat) (by omega)
    rw [← this] at r
    exact r
  have hl : s.data.toList.length = s.size := by simp
  refine ⟨φ2, h2, [wz kd, wz nn, vs s.data.toList, u1, u2], R2, Phi.le_trans le1 le2, F2, K1.trans K2, ⟨rfl, fun j x v a b => ?_⟩, u1, u2, rfl, hk, hn, by show s.data.toList.length ≤ maxB; rw [hl]; exact hs, S1.gx K2.1 fun id hi _ _ => K2.2 id hi, S2⟩
  match j, a, b with
  | 0, a, b => simp at a b; subst a b; exact ⟨int _ hk, rfl⟩
  | 1, a, b => simp at a b; subst a b; exact ⟨int _ hn, rfl⟩
  | 2, a, b => simp at a b; subst a b; exact ⟨RV.s hl.symm rfl, rfl⟩
  | 3, a, b => simp at a b; subst a b; exact ⟨rv1.mono le2, o1⟩
  | 4, a, b => simp at a b; subst a b; exact ⟨rv2, o2⟩
  | n + 5, a, b => simp at a
theorem imp_ask {w : World} {v1 v2 v3 : Value} {S Q : List Str} {L : List (List JF)} (I1 : ImpS w v1 S) (I2 : ImpS w v2 L) (I3 : ImpS w v3 Q) (o : ∀ v, v ∈ [v1, v2, v3] → v.oneCell' = true) (φ : Phi) (h : H) (R : Rel φ h w) (F : FO h) :
    ∃ φ' h' a b c, Rel φ' h' w ∧ φ.le φ' ∧ FO h' ∧ Keep h h' ∧ RV φ' (.x .agg (vl [a, b, c]) V.nil) (.agg ⟨[v1, v2, v3]⟩) ∧ Sl [] h' a S ∧ Sl [] h' b L ∧ Sl [] h' c Q := by
  obtain ⟨φ1, h1, a, R1, le1, F1, K1, r1, S1⟩ := I1 φ h R F
  obtain ⟨φ2, h2, b, R2, le2, F2, K2, r2, S2⟩ := I2 φ1 h1 R1 F1
  obtain ⟨φ3, h3, c, R3, le3, F3, K3, r3, S3⟩ := I3 φ2 h2 R2 F2
  refine ⟨φ3, h3, a, b, c, R3, Phi.le_trans le1 (Phi.le_trans le2 le3), F3, K1.trans (K2.trans K3), .agg (.cons ((r1.mono le2).mono le3) (.cons (r2.mono le3) (.cons r3 .nil))) o, ?_, S2.gx K3.1 fun id hi _ _ => K3.2 id hi, S3⟩
  have K := K2.trans K3
  exact S1.gx K.1 fun id hi _ _ => K.2 id hi
end Go.Bvm.JN
set_option linter.unusedVariables false
namespace Go.Bvm
variable {H : Type} {enc : TypeId × Value → H} {P : Program} {w : World}
def HasCells (w : World) : Prop := ∃ (B : Nat) (cs : Array Value) (el : Nat) (fr : Nat × Nat), w.heap[B]? = some (.cells cs el fr)
namespace JN
theorem impS_empty {α : Type} [Enc α] (hw : HasCells w) (a : Addr) : ImpS (α := α) w (.slice (some a) 0 0) [] := by
  intro φ h R F
  obtain ⟨B, cs, el, fr, hB⟩ := hw
  obtain ⟨φ', h', R', le, F', p1, B', n', o'⟩ := R.imp F (vs := []) (B := B) (o := 0) hB (by simp) (fun i hi => by simp at hi)
  have B2 : Bk h' h.next 0 0 el false false [] := B'
  refine ⟨φ', h', .sl h.next 0 0 0 (Enc.n α), R', le, F', ⟨by omega, fun i hi => o'.2 i (by omega)⟩, RV.sl p1 (by simp) (Nat.le_refl _) (fun q => absurd rfl q) (by simp), [], ⟨fun c hc => by simp at hc, by simp, .inr ⟨h.next, 0, 0, 0, false, false, [], rfl, ⟨by omega, by simp⟩, ⟨el, B2, fun q => by simp at q⟩, by simp, by simp⟩⟩, .nil _ _⟩
end JN
theorem weightsAll_mem {e : TypeId} {d : DataW H} {n : Nat} : ∀ {l : List (DataW H)}, d ∈ l → n ∈ d.weights P e → n ∈ DataW.weightsAll P e l
  | [], h, _ => by simp at h
  | x :: r, h, k => by
    unfold DataW.weightsAll
    rcases List.mem_cons.1 h with q | q
    · rw [q] at k; exact List.mem_append_left _ k
    · exact List.mem_append_right _ (weightsAll_mem q k)
abbrev Read (enc : TypeId × Value → H) (P : Program) (w : World) (t : TypeId) (cs : List Value) (d : DataW H) : Prop := ∃ fu ps, DataW.trod enc P w 0 (fun _ => true) true fu t cs = some (d, ps)
def CanS (α : Type) [Enc α] (enc : TypeId × Value → H) (P : Program) (w : World) (t : TypeId) : Prop := ∀ cs d, Read enc P w t cs d → (∀ n ∈ d.weights P t, n ≤ reachBytes) → ∃ v, cs = [v] ∧ v.oneCell' = true ∧ ∃ xs : List α, JN.ImpS w v xs
def Can (α : Type) [Enc α] (enc : TypeId × Value → H) (P : Program) (w : World) (t : TypeId) : Prop := ∀ cs d, Read enc P w t cs d → (∀ n ∈ d.weights P t, n ≤ reachBytes) → ∃ x : α, Imp w cs x
theorem canS {α : Type} [Enc α] {t e : TypeId} (hw : HasCells w) (ht : P.underlying t = some (.slice e)) (hc : P.cellsOf e = Enc.n α) (hn : 1 ≤ Enc.n α) (hb : 1 ≤ P.bytesOf e) (elem : Can α enc P w e) : CanS α enc P w t := by
  rintro cs d ⟨fu, ps, h⟩ hr
  have hm : maxB = 140737488355328 := rfl
  have hre : reachBytes = 140737488351232 := rfl
  rcases DataW.trod_slice ht h with ⟨rfl, hd⟩ | ⟨a, len, cap, elems, rest, n, rfl, rfl, hd, hbl, hlc, hcm, hel, h1, h2, _⟩
  · exact ⟨_, rfl, rfl, [], JN.impS_nil⟩
  · obtain ⟨hrl, h2⟩ := h2 rfl
    obtain ⟨rfl, rfl⟩ := Prod.mk.inj hd
    unfold DataW.weights at hr
    rw [ht] at hr
    simp only [List.length_map] at hr
    have hcap : cap ≤ reachBytes := by
      have := hr _ (List.mem_cons_self ..)
      have e1 : elems.length + rest.length = cap := by omega
      rw [e1] at this
      exact Nat.le_trans (Nat.le_mul_of_pos_right _ hb) this
    by_cases hc0 : cap = 0
    · have : len = 0 := by omega
      subst hc0 this
      exact ⟨_, rfl, rfl, [], JN.impS_empty hw a⟩
    · rw [hc] at h1 h2
      have cells : ∀ i, i < cap → ∃ l, w.cells? 0 (a.add (i * Enc.n α)) (Enc.n α) = some l := fun i hi => by
        by_cases hil : i < len
        · have := h1 i hil
          rw [List.getElem?_eq_getElem (by omega), Option.bind_eq_some_iff] at this
          obtain ⟨l, e1, _⟩ := this
          exact ⟨l, e1⟩
        · have := h2 (i - len) (by omega)
          rw [List.getElem?_eq_getElem (by omega), Option.bind_eq_some_iff] at this
          obtain ⟨l, e1, _⟩ := this
          rw [show len + (i - len) = i by omega] at e1
          exact ⟨l, e1⟩
      have key : ∀ i : Fin len, ∃ p : List Value × α, w.cells? 0 (a.add (i.1 * Enc.n α)) (Enc.n α) = some p.1 ∧ Imp w p.1 p.2 := fun i => by
        have := h1 i.1 i.2
        have hi : i.1 < elems.length := by omega
        rw [List.getElem?_eq_getElem hi, Option.bind_eq_some_iff] at this
        obtain ⟨l, e1, e2⟩ := this
        obtain ⟨x, hx⟩ := elem l elems[i.1].1 ⟨n, elems[i.1].2, e2⟩ (fun m hm => hr m (List.mem_cons_of_mem _ (List.mem_append_left _ (weightsAll_mem (List.mem_map.2 ⟨_, List.getElem_mem hi, rfl⟩) hm))))
        exact ⟨(l, x), e1, hx⟩
      obtain ⟨f, hf⟩ := Classical.axiomOfChoice key
      refine ⟨_, rfl, rfl, List.ofFn (fun i => (f i).2), JN.impS_row hn hlc (by omega) cells (ls := List.ofFn (fun i => (f i).1)) (by simp) (by simp) (by omega) (fun i l hi => ?_) (fun i l x hi hx => ?_)⟩
      · rw [List.getElem?_ofFn] at hi
        split at hi
        · rename_i hlt
          have := (hf ⟨i, hlt⟩).1
          cases hi
          exact this
        · simp at hi
      · rw [List.getElem?_ofFn] at hi hx
        split at hi
        · rename_i hlt
          rw [dif_pos hlt] at hx
          cases hi
          cases hx
          exact (hf ⟨i, hlt⟩).2
        · simp at hi
namespace JN
theorem can_str {t : TypeId} (ht : P.underlying t = some .string) : Can Str enc P w t := by
  rintro cs d ⟨fu, ps, h⟩ hr
  have hm : maxB = 140737488355328 := rfl
  have hre : reachBytes = 140737488351232 := rfl
  obtain ⟨s, rfl, hd, _⟩ := DataW.trod_string ht h
  obtain ⟨rfl, rfl⟩ := Prod.mk.inj hd
  unfold DataW.weights at hr
  have := hr _ (List.mem_cons_self ..)
  have e : s.data.toList.length = s.size := by simp
  exact ⟨_, imp_str s (by omega)⟩
theorem can_int {t : TypeId} (ht : P.underlying t = some (.int .i64)) : Can Int enc P w t := by
  rintro cs d ⟨fu, ps, h⟩ hr
  obtain ⟨z, rfl, hd, hz⟩ := DataW.trod_int ht h
  simp [Lit.wf, IntKind.min, IntKind.max, IntKind.signed, IntKind.bits] at hz
  exact ⟨z, imp_int z (by unfold inR; omega)⟩
end JN
theorem weightsEach_mem : ∀ {ts : List TypeId} {ds : List (DataW H)} {i : Nat} {t : TypeId} {d : DataW H} {n : Nat}, ts[i]? = some t → ds[i]? = some d → n ∈ d.weights P t → n ∈ DataW.weightsEach P ts ds
  | [], _, _, _, _, _, h, _, _ => by simp at h
  | _ :: _, [], _, _, _, _, _, h, _ => by simp at h
  | t0 :: ts, d0 :: ds, 0, t, d, n, h1, h2, h3 => by
    simp at h1 h2
    subst h1 h2
    unfold DataW.weightsEach
    exact List.mem_append_left _ h3
  | t0 :: ts, d0 :: ds, i + 1, t, d, n, h1, h2, h3 => by
    unfold DataW.weightsEach
    exact List.mem_append_right _ (weightsEach_mem (i := i) (by simpa using h1) (by simpa using h2) h3)
def flds (P : Program) (t : TypeId) : Option (List (Nat × Nat)) := match P.underlying t with
  | some (.struct fs) => some (fs.toList.map fun f => (f.type, f.offset))
  | _ => none
theorem read_struct {t : TypeId} {l : List (Nat × Nat)} {cs : List Value} {d : DataW H} (h : flds P t = some l) (r : Read enc P w t cs d) : cs.length = P.cellsOf t ∧
    ∀ (i ty o : Nat), l[i]? = some (ty, o) → ∃ di, Read enc P w ty ((cs.drop o).take (P.cellsOf ty)) di ∧ ∀ n ∈ di.weights P ty, n ∈ d.weights P t := by
  unfold flds at h
  split at h
  rotate_left
  · simp at h
  rename_i fs ht
  obtain rfl := Option.some.inj h
  obtain ⟨fu, ps, r⟩ := r
  obtain ⟨xs, n, rfl, hd, hl, hxl, hx⟩ := DataW.trod_struct ht r
  obtain ⟨rfl, rfl⟩ := Prod.mk.inj hd
  refine ⟨hl, fun i ty o hi => ?_⟩
  rw [List.getElem?_map, Option.map_eq_some_iff] at hi
  obtain ⟨f, hf, he⟩ := hi
  cases he
  have hi : i < xs.length := by
    have := (List.getElem?_eq_some_iff.1 hf).1
    simpa [hxl] using this
  have := hx i f (by simpa using hf)
  rw [List.getElem?_eq_getElem hi] at this
  refine ⟨xs[i].1, ⟨n, xs[i].2, this⟩, fun m hm => ?_⟩
  unfold DataW.weights
  rw [ht]
  exact weightsEach_mem (i := i) (by rw [List.getElem?_map, hf]; rfl) (by rw [List.getElem?_map, List.getElem?_eq_getElem hi]; rfl) hm
namespace JN
theorem can_node {t t0 t1 t2 t3 t4 : TypeId} (hf : flds P t = some [(t0, 0), (t1, 1), (t2, 2), (t3, 3), (t4, 4)]) (hc : P.cellsOf t = 5) (c0 : P.cellsOf t0 = 1) (c1 : P.cellsOf t1 = 1) (c2 : P.cellsOf t2 = 1) (c3 : P.cellsOf t3 = 1) (c4 : P.cellsOf t4 = 1)
    (u0 : P.underlying t0 = some (.int .i64)) (u1 : P.underlying t1 = some (.int .i64)) (u2 : P.underlying t2 = some .string) (u3 : CanS Str enc P w t3) (u4 : CanS Int enc P w t4) : Can JF enc P w t := by
  intro cs d r hr
  have hm : maxB = 140737488355328 := rfl
  have hre : reachBytes = 140737488351232 := rfl
  obtain ⟨hl, hx⟩ := read_struct hf r
  rw [hc] at hl
  match cs, hl with
  | [a0, a1, a2, a3, a4], _ =>
    obtain ⟨d0, r0, w0⟩ := hx 0 t0 0 rfl
    obtain ⟨d1, r1, w1⟩ := hx 1 t1 1 rfl
    obtain ⟨d2, r2, w2⟩ := hx 2 t2 2 rfl
    obtain ⟨d3, r3, w3⟩ := hx 3 t3 3 rfl
    obtain ⟨d4, r4, w4⟩ := hx 4 t4 4 rfl
    rw [c0] at r0; rw [c1] at r1; rw [c2] at r2; rw [c3] at r3; rw [c4] at r4
    simp only [List.drop_zero, List.take_succ_cons, List.take_zero, List.drop_succ_cons] at r0 r1 r2 r3 r4
    obtain ⟨_, _, r0⟩ := r0
    obtain ⟨_, _, r1⟩ := r1
    obtain ⟨_, _, r2⟩ := r2
    obtain ⟨z0, e0, _, h0⟩ := DataW.trod_int u0 r0
    obtain ⟨z1, e1, _, h1⟩ := DataW.trod_int u1 r1
    obtain ⟨s, e2, hd2, _⟩ := DataW.trod_string u2 r2
    simp at e0 e1 e2
    subst e0 e1 e2
    simp [Lit.wf, IntKind.min, IntKind.max, IntKind.signed, IntKind.bits] at h0 h1
    obtain ⟨v3, e3, o3, ks, I3⟩ := u3 _ _ r3 (fun n hn => hr n (w3 n hn))
    obtain ⟨v4, e4, o4, qs, I4⟩ := u4 _ _ r4 (fun n hn => hr n (w4 n hn))
    simp at e3 e4
    subst e3 e4
    obtain ⟨rfl, _⟩ := Prod.mk.inj hd2
    have hs : s.size ≤ maxB := by
      have := hr _ (w2 s.data.toList.length (by unfold DataW.weights; exact List.mem_cons_self ..))
      have e : s.data.toList.length = s.size := by simp
      omega
    exact ⟨_, imp_node (by unfold inR; omega) (by unfold inR; omega) hs I3 I4 o3 o4⟩
theorem can_cell {t : TypeId} (h : CanS JF enc P w t) : Can (List JF) enc P w t := by
  intro cs d r hr
  obtain ⟨v, rfl, o, xs, I⟩ := h cs d r hr
  exact ⟨xs, imp_cell I o⟩
theorem can_ask {t t0 t1 t2 : TypeId} {base : Nat} {v : Value} {d : DataW H} (hf : flds P t = some [(t0, 0), (t1, 1), (t2, 2)]) (hc : P.cellsOf t = 3) (c0 : P.cellsOf t0 = 1) (c1 : P.cellsOf t1 = 1) (c2 : P.cellsOf t2 = 1)
    (u0 : CanS Str enc P w t0) (u1 : CanS (List JF) enc P w t1) (u2 : CanS Str enc P w t2) (hv : Value.okWide P w .any base t v) (r : Read enc P w t v.cells.toList d) (hr : ∀ n ∈ d.weights P t, n ≤ reachBytes) (φ : Phi) (h : Go.Bvm.H) (R : Rel φ h w) (F : FO h) :
    ∃ (S Q : List Str) (L : List (List JF)) (φ' : Phi) (h' : Go.Bvm.H) (a b c : V), Rel φ' h' w ∧ φ.le φ' ∧ FO h' ∧ Keep h h' ∧ RV φ' (.x .agg (vl [a, b, c]) V.nil) v ∧ Sl [] h' a S ∧ Sl [] h' b L ∧ Sl [] h' c Q := by
  obtain ⟨l, rfl⟩ : ∃ l : List Value, v = .agg ⟨l⟩ := by
    have hf' := hf
    unfold flds at hf'
    split at hf'
    · rename_i fs ht
      unfold Value.okWide at hv
      rw [ht] at hv
      obtain ⟨⟨l⟩, rfl, _⟩ := hv
      exact ⟨l, rfl⟩
    · simp at hf'
  have r : Read enc P w t l d := r
  obtain ⟨hl, hx⟩ := read_struct hf r
  rw [hc] at hl
  match l, hl with
  | [a0, a1, a2], _ =>
    obtain ⟨d0, r0, w0⟩ := hx 0 t0 0 rfl
    obtain ⟨d1, r1, w1⟩ := hx 1 t1 1 rfl
    obtain ⟨d2, r2, w2⟩ := hx 2 t2 2 rfl
    rw [c0] at r0; rw [c1] at r1; rw [c2] at r2
    simp only [List.drop_zero, List.take_succ_cons, List.take_zero, List.drop_succ_cons] at r0 r1 r2
    obtain ⟨v0, e0, o0, S, I0⟩ := u0 _ _ r0 (fun n hn => hr n (w0 n hn))
    obtain ⟨v1, e1, o1, L, I1⟩ := u1 _ _ r1 (fun n hn => hr n (w1 n hn))
    obtain ⟨v2, e2, o2, Q, I2⟩ := u2 _ _ r2 (fun n hn => hr n (w2 n hn))
    simp at e0 e1 e2
    subst e0 e1 e2
    obtain ⟨φ', h', a, b, c, q⟩ := imp_ask I0 I1 I2 (fun v hv => by simp at hv; rcases hv with rfl | rfl | rfl <;> assumption) φ h R F
    exact ⟨S, Q, L, φ', h', a, b, c, q⟩
end JN
end Go.Bvm
