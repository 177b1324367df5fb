/- The abstract machine: composite values, closures, interface values. Conditions: none. -/
import Derived.Test.YtacpnpdggbfkgaaDoorBvmConv
set_option linter.unusedVariables false
namespace Go.Bvm
variable {P : Program} {G : Nat → Bool} {N : Fr} {q : Operand → Option V}

theorem vput_true {φ : Phi} : ∀ {l : V} {cs : List Value}, RL φ l cs → ∀ (off : Nat) (vs : V) (ds : List Value) (k : V → Bool), RL φ vs ds → vput l off vs k = true →
    ∃ r, k r = true ∧ off + ds.length ≤ cs.length ∧ RL φ r (cs.take off ++ ds ++ cs.drop (off + ds.length))
  | _, _, .nil, off, vs, ds, k, hv, h => by
    cases hv with
    | nil =>
      cases off with
      | zero => exact ⟨_, h, by simp, by simpa using RL.nil⟩
      | succ m => exact Bool.noConfusion (show false = true from h)
    | cons a b => cases off <;> exact Bool.noConfusion (show false = true from h)
  | _, _, .cons (v := v) (r := r) ha hb, off, vs, ds, k, hv, h => by
    cases off with
    | zero =>
      cases hv with
      | nil => exact ⟨_, h, by simp, by simpa using RL.cons ha hb⟩
      | cons hx hy =>
        obtain ⟨q, e1, e2, e3⟩ := vput_true hb 0 _ _ _ hy h
        refine ⟨_, e1, by simp at e2 ⊢; omega, ?_⟩
        simp only [List.take_zero, List.nil_append, Nat.zero_add, List.cons_append, List.length_cons, List.drop_succ_cons] at e3 ⊢
        exact .cons hx e3
    | succ m =>
      obtain ⟨q, e1, e2, e3⟩ := vput_true hb m vs ds _ hv h
      refine ⟨_, e1, by simp; omega, ?_⟩
      rw [show m + 1 + ds.length = (m + ds.length) + 1 from by omega]
      simp only [List.take_succ_cons, List.cons_append, List.drop_succ_cons]
      exact .cons ha e3

theorem vlen_rel {φ : Phi} : ∀ {l : V} {cs : List Value}, RL φ l cs → vlen l = cs.length
  | _, _, .nil => rfl
  | _, _, .cons ha hb => by
    have := vlen_rel hb
    simp only [List.length_cons, ← this]; rfl

theorem foldl_set (off : Nat) : ∀ (l : List Value) (m : Nat) (cs : Array Value), off + m + l.length ≤ cs.size →
    ((l.zipIdx m).foldl (fun cs x => cs.setIfInBounds (off + x.2) x.1) cs).toList = cs.toList.take (off + m) ++ l ++ cs.toList.drop (off + m + l.length)
  | [], m, cs, h => by simp
  | v :: r, m, cs, h => by
    simp only [List.zipIdx_cons, List.foldl_cons, List.length_cons] at h ⊢
    rw [foldl_set off r (m + 1) _ (by simp; omega)]
    have hlt : off + m < cs.toList.length := by simp; omega
    simp only [Array.toList_setIfInBounds]
    rw [show off + (m + 1) = off + m + 1 from by omega, show off + m + 1 + r.length = off + m + (r.length + 1) from by omega]
    rw [List.take_succ_eq_append_getElem (by simpa using hlt), List.getElem_set_self, List.take_set_of_le (by omega), List.drop_set_of_lt (by omega)]
    simp

theorem fill_step {place : Nat → Option (Nat × Nat)} {cs : Array Value} {i off size : Nat} {v : Value} {rest : List (Nat × Value)} (hp : place i = some (off, size)) (hs : v.cells.size = size) (hle : off + size ≤ cs.size) :
    ∃ cs' : Array Value, Instr.fill place cs ((i, v) :: rest) = Instr.fill place cs' rest ∧ cs'.toList = cs.toList.take off ++ v.cells.toList ++ cs.toList.drop (off + size) := by
  refine ⟨v.cells.zipIdx.foldl (fun cs (c, j) => cs.setIfInBounds (off + j) c) cs, ?_, ?_⟩
  · rw [Instr.fill, hp]
    simp only
    rw [if_neg (by simp [hs]; omega)]
  · have := foldl_set off v.cells.toList 0 cs (by simp [hs]; omega)
    rw [← Array.foldl_toList, Array.toList_zipIdx]
    simp only [Nat.add_zero] at this
    rw [← hs]
    simpa using this

theorem parts_ok {place : Nat → Option (Nat × TypeId)} {φ : Phi} {ρ : Operand → Value} (r : QR φ q ρ) : ∀ (ps : List (Nat × Operand)) (l : V) (cs : Array Value) (k : V → Bool), parts P q place ps l k = true → RL φ l cs.toList → (∀ v, v ∈ cs.toList → v.oneCell' = true) →
    ∃ (l' : V) (cs' : Array Value), k l' = true ∧ Instr.fill (fun i => (place i).map fun p => (p.1, sizeT P p.2)) cs (ps.map fun p => (p.1, ρ p.2)) = some cs' ∧ RL φ l' cs'.toList ∧ cs'.size = cs.size ∧ (∀ v, v ∈ cs'.toList → v.oneCell' = true)
  | [], l, cs, k, h, hl, ho => ⟨l, cs, h, rfl, hl, rfl, ho⟩
  | (i, x) :: rest, l, cs, k, h, hl, ho => by
    simp only [parts] at h
    split at h
    · rename_i off t g hp hx
      split at h
      · rename_i ht
        have rv := r _ _ hx
        have key : ∀ (vs : V) (u : Value), u = ρ x → RL φ vs u.cells.toList → (∀ v, v ∈ u.cells.toList → v.oneCell' = true) → u.cells.size = sizeT P t → vput l off vs (fun l' => parts P q place rest l' k) = true →
            ∃ (l' : V) (cs' : Array Value), k l' = true ∧ Instr.fill (fun i => (place i).map fun p => (p.1, sizeT P p.2)) cs (((i, x) :: rest).map fun p => (p.1, ρ p.2)) = some cs' ∧ RL φ l' cs'.toList ∧ cs'.size = cs.size ∧ (∀ v, v ∈ cs'.toList → v.oneCell' = true) := by
          intro vs u hu hvs hone hsz hput
          obtain ⟨l1, e1, e2, e3⟩ := vput_true hl off vs _ _ hvs hput
          have hlen : u.cells.toList.length = sizeT P t := by simpa using hsz
          rw [hlen] at e2 e3
          obtain ⟨cs1, f1, f2⟩ := fill_step (place := fun i => (place i).map fun p => (p.1, sizeT P p.2)) (cs := cs) (i := i) (off := off) (size := sizeT P t) (v := ρ x) (rest := rest.map fun p => (p.1, ρ p.2)) (by simp [hp]) (by rw [← hu]; exact hsz) (by simpa using e2)
          rw [← hu] at f2
          rw [← f2] at e3
          have hone1 : ∀ v, v ∈ cs1.toList → v.oneCell' = true := by
            intro v hv
            rw [f2] at hv
            simp only [List.mem_append] at hv
            rcases hv with (hv | hv) | hv
            · exact ho v (List.mem_of_mem_take hv)
            · exact hone v hv
            · exact ho v (List.mem_of_mem_drop hv)
          have hsz1 : cs1.size = cs.size := by
            rw [← Array.length_toList, f2]
            simp [hlen] at e2 ⊢; omega
          obtain ⟨l2, cs2, g1, g2, g3, g4, g5⟩ := parts_ok r rest l1 cs1 k e1 e3 hone1
          refine ⟨l2, cs2, g1, ?_, g3, g4.trans hsz1, g5⟩
          show Instr.fill _ cs ((i, ρ x) :: _) = _
          rw [f1]; exact g2
        cases hone : oneT P t with
        | true =>
          have h' : both (Nat.beq (sizeT P t) 1) (both (oneV g) (vput l off (.x .cons g V.nil) fun l' => parts P q place rest l' k)) = true := by
            have := h; unfold part at this; rw [hone] at this; exact this
          obtain ⟨h0, h1⟩ := both_true h'
          obtain ⟨h2, h3⟩ := both_true h1
          have h0 := beq_true h0
          obtain ⟨o1, o2⟩ := oneV_ok h2 rv
          exact key (.x .cons g V.nil) _ rfl (by rw [o2]; exact .cons rv .nil) (by rw [o2]; simpa using o1) (by rw [o2, h0]; rfl) h3
        | false =>
          have h' : onAgg g (fun z => both (Nat.beq (vlen z) (sizeT P t)) (vput l off z fun l' => parts P q place rest l' k)) = true := by
            have := h; unfold part at this; rw [hone] at this; exact this
          obtain ⟨q2, b2, e1, h2⟩ := onAgg_true h'
          obtain ⟨h3, h4⟩ := both_true h2
          have h3 := beq_true h3
          rw [e1] at rv
          generalize hu : ρ x = u at rv
          cases rv with
          | agg hl2 ho2 =>
            exact key q2 _ hu.symm (by simpa [Value.cells] using hl2) (by simpa [Value.cells] using ho2) (by rw [← h3, vlen_rel hl2]; simp [Value.cells]) h4
      · simp at h
    · simp at h

theorem zcells_ok {φ : Phi} {z : Value} {v : V} (h : zcells z = some v) : RL φ v z.cells.toList ∧ ∀ x, x ∈ z.cells.toList → x.oneCell' = true := by
  unfold zcells at h
  split at h
  · rename_i hall; exact ⟨absL_ok φ _ _ h, fun x hx => List.all_eq_true.1 hall x hx⟩
  · simp at h
theorem zslice_ok {φ : Phi} {z : Value} {n : Nat} {v : V} (h : zslice z n = some v) (hz : z.cells.size ≠ 0 ∨ n = 0) : RL φ v ((List.range n).map fun i => z.cells[i % z.cells.size]!) ∧ ∀ x, x ∈ ((List.range n).map fun i => z.cells[i % z.cells.size]!) → x.oneCell' = true := by
  unfold zslice at h
  split at h
  · rename_i hall
    refine ⟨absL_ok φ _ _ h, fun x hx => ?_⟩
    simp only [List.mem_map, List.mem_range] at hx
    obtain ⟨i, hi, rfl⟩ := hx
    have hall : ∀ x, x ∈ z.cells.toList → x.oneCell' = true := fun x hx => List.all_eq_true.1 hall x hx
    rcases hz with hz | hz
    · have hlt : i % z.cells.size < z.cells.size := Nat.mod_lt _ (by omega)
      rw [getElem!_pos z.cells _ hlt]
      exact hall _ (by simp)
    · omega
  · simp at h

theorem build_ok {o : Oper} {t : TypeId} {fs : Array Field} {i : TypeInfo} {z : Value} {ps : Array (Nat × Operand)} {v : V} {k : V → Bool} (hm : parts P q (fun j => (fs[j]?).map fun f => (f.offset, f.type)) ps.toList v (fun l => k (.x .agg l V.nil)) = true) (ho : o.op = .build t ps) (ht : P.underlying t = some (.struct fs)) (hi : P.info? t = some i) (hz : i.zero = some z) (hv : zcells z = some v)
    (hsz : ∀ f, f ∈ fs.toList → ∃ u, P.info? f.type = some u) : PopS P q o k := by
  obtain ⟨dst, op', ty, pos, aft, grd⟩ := o
  simp only at ho; subst ho
  intro φ ρ hh w r R
  obtain ⟨z1, z2⟩ := zcells_ok (φ := φ) hv
  obtain ⟨l', cs', h1, h2, h3, h4, h5⟩ := parts_ok r _ v z.cells _ hm z1 z2
  refine ⟨_, .agg cs', run_value (Instr.build t (ps.map fun (i, x) => (i, ρ x))) _ _ _ ?_, ?_, h1⟩
  · unfold Instr.build zeroValue
    have hm : ∀ w, (fs.mapM fun f => do pure (f.offset, ← sizeOf f.type) : Sem _).run P w = .ok (fs.map fun f => (f.offset, sizeT P f.type)) w := by
      intro w
      rw [Array.mapM_eq_mapM_toList]
      have : ∀ (l : List Field), (∀ f, f ∈ l → ∃ u, P.info? f.type = some u) → (l.mapM fun f => do pure (f.offset, ← sizeOf f.type) : Sem _).run P w = .ok (l.map fun f => (f.offset, sizeT P f.type)) w := by
        intro l
        induction l with
        | nil => intro _; rfl
        | cons f l ih =>
          intro hh
          obtain ⟨u, hu⟩ := hh f (by simp)
          rw [List.mapM_cons, Sem.run_bind, Sem.run_bind, run_size hu]
          simp only [Result.andThen_ok, Sem.run_pure]
          rw [Sem.run_bind, ih (fun g hg => hh g (by simp [hg]))]
          rfl
      rw [Sem.run_map, this _ hsz]
      simp only [Result.andThen_ok]
      congr 1
      apply Array.ext'; simp
    rw [Sem.run_bind, Sem.run_bind, run_info hi]
    simp only [Result.andThen_ok, hz]
    rw [Sem.run_pure]
    simp only [Result.andThen_ok]
    rw [Sem.run_bind, run_under ht]
    simp only [Result.andThen_ok]
    rw [Sem.run_bind, hm]
    simp only [Result.andThen_ok]
    have e1 : (fun j : Nat => (fs.map fun f : Field => (f.offset, sizeT P f.type))[j]?) = fun j : Nat => ((fs[j]?).map fun f : Field => (f.offset, f.type)).map fun p => (p.1, sizeT P p.2) := by
      funext j; rw [Array.getElem?_map]; cases fs[j]? <;> rfl
    rw [e1]
    have e2 : (ps.map fun (i, x) => (i, ρ x)).toList = ps.toList.map fun p => (p.1, ρ p.2) := by simp
    rw [e2, h2]
    rfl
  · exact .agg h3 h5

theorem run_buildSlice {t el : TypeId} {len : Nat} {i : TypeInfo} {z : Value} {ps : Array (Nat × Value)} {cs' : Array Value} (ht : P.underlying t = some (.slice el)) (hi : P.info? el = some i) (hz : i.zero = some z) (hle : len * i.size ≤ 16777216) (w : World)
    (hfill : Instr.fill (fun j => some (j * i.size, i.size)) ((Array.range (len * i.size)).map (z.cells[· % z.cells.size]!)) ps.toList = some cs') : (Instr.buildSlice t len ps).run P w = .ok (.slice (some ⟨w.heap.size, 0, none⟩) len len) (w.alloc (.cells cs' el)) := by
  have hn : ¬ (len * i.size > 2 ^ 24) := by
    rw [show (2 : Nat) ^ 24 = 16777216 from rfl]; omega
  have hs : ∀ w, (sizeOf el).run P w = .ok i.size w := fun w => by rw [run_size hi]; unfold sizeT; rw [hi]
  unfold Instr.buildSlice
  simp only [Sem.run_bind, run_under ht, Result.andThen_ok, hs, if_neg hn]
  by_cases h0 : len * i.size = 0
  · have e3 : ((Array.range (len * i.size)).map (fun x => (#[] : Array Value)[x % (#[] : Array Value).size]!)) = (Array.range (len * i.size)).map (z.cells[· % z.cells.size]!) := by simp [h0]
    rw [if_pos h0, Sem.run_bind, Sem.run_pure]
    simp only [Result.andThen_ok]
    rw [e3, hfill]
    rfl
  · rw [if_neg h0]
    unfold zeroValue
    simp only [Sem.run_bind, run_info hi, Result.andThen_ok, hz, Sem.run_pure]
    rw [hfill]
    rfl

theorem bsl_ok {o : Oper} {t el : TypeId} {len : Nat} {i : TypeInfo} {z : Value} {ps : Array (Nat × Operand)} {v : V} {id : Nat} {h : H} {k : KV} (hm : parts P q (fun j => some (j * i.size, el)) ps.toList v (fun l => bslA id len i.size el l h k) = true) (ho : o.op = .buildSlice t len ps) (ht : P.underlying t = some (.slice el)) (hi : P.info? el = some i) (hz : i.zero = some z) (hv : zslice z (len * i.size) = some v)
    (h1s : 1 ≤ i.size) (hzs : z.cells.size ≠ 0) : AopS P q o id h k := by
  obtain ⟨dst, op', ty, pos, aft, grd⟩ := o
  simp only at ho; subst ho
  intro φ ρ w r R hid hnone
  obtain ⟨z1, z2⟩ := zslice_ok (φ := φ) hv (.inl hzs)
  have hsT : sizeT P el = i.size := by unfold sizeT; rw [hi]
  have z0 : ((Array.range (len * i.size)).map (z.cells[· % z.cells.size]!)).toList = (List.range (len * i.size)).map fun j => z.cells[j % z.cells.size]! := by simp
  obtain ⟨l', cs', h0, h2, h3, h4, h5⟩ := parts_ok r _ v ((Array.range (len * i.size)).map (z.cells[· % z.cells.size]!)) _ hm (by rw [z0]; exact z1) (by rw [z0]; exact z2)
  obtain ⟨hle, h1⟩ := both_true h0
  have hle := ble_true hle
  have hcl : cs'.size = len * i.size := by rw [h4]; simp
  obtain ⟨p1, c', p2, p3, p4, p5⟩ := lay_true l' (len * i.size) 0 (fresh (len * i.size)) _ _ h1 h3 (by rw [Nat.zero_add]; exact acap_fresh _ hle)
  obtain ⟨R', X⟩ := R.new hid (Nat.le_refl _) R.next hnone (T := h.tr) (c := c') (n := len * i.size) (frz := 0) (elem := el) (ex := true) (cs := cs') (fr := (0, 0)) (base := 0) (B := w.heap.size) (w' := w.alloc (.cells cs' el)) (fun _ _ => .inl rfl)
    (by rw [p3]; exact acap_fresh _ hle) (by omega) (fun j hj => by
      have hjl : j < cs'.toList.length := by rw [Array.length_toList, hcl]; exact hj
      have hx : cs'.toList[j]? = some (cs'.toList[j]'hjl) := List.getElem?_eq_getElem hjl
      refine ⟨cs'.toList[j]'hjl, by rw [Nat.zero_add, ← Array.getElem?_toList]; exact hx, ?_, h5 _ (List.getElem_mem _)⟩
      have := p5 j _ hx
      rw [Nat.zero_add] at this; exact this) (fun _ => ⟨rfl, hcl.symm⟩) (fun j _ _ => by simp) (push_new _ _) (by simp) (fun j hj _ => push_old _ _ _ hj) rfl rfl rfl (.inr (Nat.le_refl _))
  have e1 : (fun j => ((some (j * i.size, el) : Option (Nat × TypeId))).map fun p => (p.1, sizeT P p.2)) = (fun j => (some (j * i.size, i.size) : Option (Nat × Nat))) := by
    funext j; simp [hsT]
  have e2 : (ps.map fun (i, x) => (i, ρ x)).toList = ps.toList.map fun p => (p.1, ρ p.2) := by simp
  rw [e1, ← e2] at h2
  have hrun := run_value (Instr.buildSlice t len (ps.map fun (i, x) => (i, ρ x))) _ _ _ (run_buildSlice ht hi hz (by omega) w h2)
  refine ⟨.slice (some ⟨w.heap.size, 0, none⟩) len len, _, hrun, _, _, _, p2, ?_, R', X, fun i v hi => Phi.add_other _ _ (fun z => hi z.1)⟩
  refine RV.sl (l := ⟨w.heap.size, 0, len * i.size, cs'.size⟩) (Phi.add_same _ _ _ _) ?_ (Nat.le_refl _) (fun _ => rfl) ?_
  · show 0 + len * i.size ≤ len * i.size
    omega
  · show 0 + 0 + len * i.size ≤ cs'.size
    omega

theorem aget_afill (i n : Nat) (v : V) (hi : i < acap (afill n v)) : aget i (afill n v) = v := by
  unfold afill at hi ⊢
  cases h : Nat.ble n 8 with
  | true => rw [bs_true]; exact sel8_n8 _ _
  | false =>
    rw [h, bs_false] at hi
    rw [bs_false]
    show aget4 i _ = v
    rw [aget4_eq _ _ hi, sel8_n8, sel8_n8, sel8_n8, sel8_n8]
theorem acap_afill (n : Nat) (v : V) (hn : n ≤ 4096) : n ≤ acap (afill n v) := by
  unfold afill
  cases h : Nat.ble n 8 with
  | true => exact ble_true h
  | false => exact hn

theorem mksl_ok {o : Oper} {t el : TypeId} {x y : Operand} {i : TypeInfo} {z : Value} {v : V} {id : Nat} {h : H} {k : KV} (hm : bi q x y (fun a b => mkslA id el v a b h k) = true) (ho : o.op = .makeSlice t x y) (ht : P.underlying t = some (.slice el)) (hi : P.info? el = some i) (hz : i.zero = some z) (hv : absV z = some v)
    (h1 : i.size = 1) (h2 : i.bytes ≤ 4096) (h3 : z.oneCell' = true) : AopS P q o id h k := by
  obtain ⟨dst, op', ty, pos, aft, grd⟩ := o
  simp only at ho; subst ho
  intro φ ρ w r R hid hnone
  obtain ⟨a, b, hx, hy, hm1⟩ := bi_true hm
  obtain ⟨q1, n, e1, hm2⟩ := onIx_true hm1 (r _ _ hx)
  obtain ⟨q2, m, e2, hm3⟩ := onIx_true hm2 (r _ _ hy)
  obtain ⟨h4, hm4⟩ := both_true hm3
  obtain ⟨h5, hm5⟩ := both_true hm4
  obtain rfl := beq_true h4
  have h5 := ble_true h5
  have hzc : z.cells = #[z] := by cases z <;> first | rfl | simp [Value.oneCell'] at h3
  have hcs : ∀ j, j < n → (madeCells z.cells (n * i.size))[j]? = some z := fun j hj => by
    unfold madeCells
    rw [hzc, h1]
    simp [hj, Nat.mod_one]
  have hby : (i.bytes : Int) * (n : Int) ≤ 281474976710656 := by
    have h6 : i.bytes * n ≤ 4096 * 4096 := Nat.mul_le_mul h2 h5
    have h7 : ((i.bytes * n : Nat) : Int) ≤ 16777216 := by omega
    rw [Int.natCast_mul] at h7; omega
  have hsz : (madeCells z.cells (n * i.size)).size = n := by rw [size_madeCells, h1, Nat.mul_one]
  obtain ⟨R', X⟩ := R.new hid (Nat.le_refl _) R.next hnone (T := h.tr) (c := afill n v) (n := n) (frz := 0) (elem := el) (ex := true) (cs := madeCells z.cells (n * i.size)) (fr := (0, 0)) (base := 0) (B := w.heap.size) (w' := w.alloc (.cells (madeCells z.cells (n * i.size)) el)) (fun _ _ => .inl rfl)
    (acap_afill _ _ h5) (by omega) (fun j hj => ⟨z, by rw [Nat.zero_add]; exact hcs j hj, by rw [aget_afill _ _ _ (by have := acap_afill n v h5; omega)]; exact absV_ok φ z v hv, h3⟩) (fun _ => ⟨rfl, hsz.symm⟩) (fun j _ _ => by simp) (push_new _ _) (by simp) (fun j hj _ => push_old _ _ _ hj) rfl rfl rfl (.inr (Nat.le_refl _))
  refine ⟨_, _, run_value (Instr.makeSlice t (ρ x) (ρ y)) _ _ _ (by rw [e1, e2]; exact run_makeSlice w t el i z ht hi hz q1 q2 n n (by omega) (by omega) (by rw [h1]; omega) hby (by omega)), _, _, _, hm5, ?_, R', X, fun i v hi => Phi.add_other _ _ (fun z => hi z.1)⟩
  refine RV.sl (l := ⟨w.heap.size, 0, n, _⟩) (Phi.add_same _ _ _ _) (by show 0 + n * 1 ≤ n; omega) (Nat.le_refl _) (fun _ => rfl) ?_
  show 0 + 0 + n * 1 ≤ (madeCells z.cells (n * i.size)).size
  omega

theorem RL.one {φ : Phi} : ∀ {l : V} {cs : List Value}, RL φ l cs → ∀ (n : Nat) (k : V → Bool), vdrop l n k = true → ∃ r, k r = true ∧ RL φ r (cs.drop n) ∧ n ≤ cs.length
  | _, _, .nil, n, k, h => by
    cases n with
    | zero => exact ⟨_, h, .nil, by simp⟩
    | succ n => exact Bool.noConfusion (show false = true from h)
  | _, _, .cons ha hb, n, k, h => by
    cases n with
    | zero => exact ⟨_, h, .cons ha hb, by simp⟩
    | succ n =>
      obtain ⟨r, e1, e2, e3⟩ := RL.one hb n k h
      exact ⟨r, e1, by simpa using e2, by simp; omega⟩
theorem RL.take {φ : Phi} : ∀ {l : V} {cs : List Value}, RL φ l cs → ∀ (n : Nat) (k : V → Bool), vtake l n k = true → ∃ r, k r = true ∧ RL φ r (cs.take n) ∧ n ≤ cs.length
  | _, _, .nil, n, k, h => by
    cases n with
    | zero => exact ⟨_, h, .nil, by simp⟩
    | succ n => exact Bool.noConfusion (show false = true from h)
  | _, _, .cons ha hb, n, k, h => by
    cases n with
    | zero => exact ⟨_, h, .nil, by simp⟩
    | succ n =>
      obtain ⟨r, e1, e2, e3⟩ := RL.take hb n _ h
      exact ⟨_, e1, by simpa using RL.cons ha e2, by simp; omega⟩

theorem field_fun {t : TypeId} {fs : Array Field} {q : Field} {f : Nat} (ht : P.underlying t = some (.struct fs)) (hf : fs[f]? = some q) (hq : hasT P q.type = true) : Fun1 P (fieldV (oneT P q.type) q.offset (sizeT P q.type)) (fun v => Instr.field t v f) := by
  intro φ x k h c hc w
  obtain ⟨l, b, rfl, h2⟩ := onAgg_true h
  obtain ⟨d, hd⟩ := hasT_under hq
  obtain ⟨i, hi⟩ := under_info hd
  cases hc with
  | agg hl ho =>
    rename_i cs
    obtain ⟨r, h3, h4, h5⟩ := hl.one q.offset _ h2
    have hrun : ∀ v, (Go.part q.type ⟨cs⟩ q.offset).run P w = .ok v w → (Instr.field t (.agg ⟨cs⟩) f).run P w = .ok v w := fun v hv => by
      unfold Instr.field
      rw [Sem.run_bind, run_under ht]
      simp only [Result.andThen_ok, hf]
      rw [Sem.run_bind]
      show ((pure (⟨cs⟩ : Array Value) : Sem _).run P w).andThen _ = _
      rw [Sem.run_pure]; exact hv
    cases hone : oneT P q.type with
    | true =>
      rw [hone] at h3
      obtain ⟨x, c, e1, e2, e3⟩ := vnth_true r 0 k _ h3 h4
      refine ⟨x, c, hrun c ?_, e2, e3⟩
      unfold Go.part
      rw [Sem.run_bind, run_isAgg hd, hone]
      have : (⟨cs⟩ : Array Value)[q.offset]? = some c := by
        have := e1; rw [List.getElem?_drop] at this; simpa using this
      show (match (⟨cs⟩ : Array Value)[q.offset]? with | some v => pure v | none => stuck "part: no such cell" : Sem Value).run P w = _
      rw [this]; rfl
    | false =>
      rw [hone] at h3
      obtain ⟨r2, e1, e2, e3⟩ := h4.take (sizeT P q.type) _ h3
      have hx : ((⟨cs⟩ : Array Value).extract q.offset (q.offset + sizeT P q.type)) = ⟨(cs.drop q.offset).take (sizeT P q.type)⟩ := by
        apply Array.ext'
        simp [List.extract_eq_take_drop]
      refine ⟨_, .agg ⟨(cs.drop q.offset).take (sizeT P q.type)⟩, hrun _ ?_, .agg e2 (fun v hv => ho v (List.mem_of_mem_drop (List.mem_of_mem_take hv))), e1⟩
      unfold Go.part
      rw [Sem.run_bind, run_isAgg hd, hone]
      show (do pure (.agg ((⟨cs⟩ : Array Value).extract q.offset (q.offset + (← sizeOf q.type)))) : Sem Value).run P w = _
      rw [Sem.run_bind, run_size hi]
      simp only [Result.andThen_ok]
      rw [hx]; rfl

theorem mkf_ok {o : Oper} {f : Nat} {xs ys : Array Operand} {l m : V} {k : V → Bool} (hk : k (.x (.func f) l m) = true) (ho : o.op = .makeFunc (.func f) xs ys) (hl : oprs q xs.toList = some l) (hm : oprs q ys.toList = some m) : PopS P q o k := by
  obtain ⟨dst', op', ty, pos, aft, grd⟩ := o
  simp only at ho; subst ho
  intro φ ρ hh w r R
  refine ⟨_, .func (.func f) ⟨xs.toList.map ρ⟩ ⟨ys.toList.map ρ⟩, ?_, .func (oprs_ok r _ _ hl) (oprs_ok r _ _ hm), hk⟩
  have e1 : (⟨xs.toList.map ρ⟩ : Array Value) = xs.map ρ := by apply Array.ext'; simp
  have e2 : (⟨ys.toList.map ρ⟩ : Array Value) = ys.map ρ := by apply Array.ext'; simp
  rw [e1, e2]
  exact run_value (Instr.makeFunc (.func f) (xs.map ρ) (ys.map ρ)) _ _ _ rfl

theorem mki_ok {o : Oper} {t : TypeId} {x : Operand} {d : TypeDesc} {k : V → Bool} (hm : un q x (fun a => k (.x (.iface t) a V.nil)) = true) (ho : o.op = .makeInterface t x) (ht : P.underlying t = some d) (hd : ∀ m, d ≠ .interface m) : PopS P q o k := by
  obtain ⟨dst', op', ty, pos, aft, grd⟩ := o
  simp only at ho; subst ho
  intro φ ρ hh w r R
  obtain ⟨g, hx, hk⟩ := un_true hm
  refine ⟨_, .iface t (ρ x), run_value (Instr.makeInterface t (ρ x)) _ _ _ ?_, .iface (r _ _ hx), hk⟩
  unfold Instr.makeInterface
  rw [Sem.run_bind, run_under ht]
  cases d <;> first | rfl | exact absurd rfl (hd _)

theorem maxmin_fun {f : Nat → Nat → Nat} {fz : IntKind → Int → Int → (V → Bool) → Bool} {F : Value → Value → Sem Value} {c : Int → Int → Int} (hF : ∀ k x y, F (.int k x) (.int k y) = pure (.int k (c x y))) (hc : ∀ (a b : Nat) (d : Int), c ((a : Int) - d) ((b : Int) - d) = (f a b : Int) - d) (hlt : ∀ a b m, a < m → b < m → f a b < m)
    (hz : ∀ q a b k, fz q a b k = k (mkI q (c a b))) : Fun2 P (arith (fun a b k => k (.w (f a b))) (fun a b k => k (.y (f a b))) fz) F := by
  intro φ x y k h u d hu hd w
  rcases arith_true h with ⟨n, m, rfl, rfl, hk⟩ | ⟨n, m, rfl, rfl, hk⟩ | ⟨q, n, m, _, _, _, _, rfl, rfl, hk⟩ <;> clear h
  · obtain ⟨hn, rfl⟩ := hu.inv_w; obtain ⟨hm, rfl⟩ := hd.inv_w
    refine ⟨_, _, by rw [hF]; rfl, ?_, hk⟩
    rw [hc]; exact .w (hlt _ _ _ hn hm)
  · obtain ⟨hn, rfl⟩ := hu.inv_y; obtain ⟨hm, rfl⟩ := hd.inv_y
    refine ⟨_, _, by rw [hF]; rfl, ?_, hk⟩
    have := hc n m 0
    simp only [Int.sub_zero] at this
    rw [this]; exact .y (hlt _ _ _ hn hm)
  · obtain ⟨h1, h2, rfl⟩ := hu.inv_int; obtain ⟨_, _, rfl⟩ := hd.inv_int
    rw [hz] at hk
    exact ⟨_, _, by rw [hF]; rfl, RV.mkI h1 h2, hk⟩

theorem max_fun : Fun2 P maxV Builtin.max2 := maxmin_fun (c := fun x y => if y > x then y else x) (fun _ _ _ => rfl)
  (fun a b d => by by_cases h : a + 1 ≤ b <;> simp [bs_ite, Nat.ble_eq, h] <;> omega) (fun a b m h1 h2 => by simp only [bs_ite]; split <;> assumption) (fun _ _ _ _ => rfl)
theorem min_fun : Fun2 P minV Builtin.min2 := maxmin_fun (c := fun x y => if y < x then y else x) (fun _ _ _ => rfl)
  (fun a b d => by by_cases h : b + 1 ≤ a <;> simp [bs_ite, Nat.ble_eq, h] <;> omega) (fun a b m h1 h2 => by simp only [bs_ite]; split <;> assumption) (fun _ _ _ _ => rfl)

theorem mm_ok {o : Oper} {b : Builtin} {x y : Operand} {xs : Array Operand} {ts : Array TypeId} {f : V → V → (V → Bool) → Bool} {F : Value → Value → Sem Value} {k : V → Bool} (hm : bi q x y (fun a b => f a b k) = true) (ho : o.op = .call ⟨.builtin b, xs, ts⟩) (hxs : xs.toList = [x, y]) (hf : Fun2 P f F)
    (hb : b = .max ∧ F = Builtin.max2 ∨ b = .min ∧ F = Builtin.min2) : PopS P q o k := by
  obtain ⟨dst', op', ty, pos, aft, grd⟩ := o
  simp only at ho; subst ho
  obtain rfl := args_two hxs
  refine PopS.fun2 (f := f) hm hf fun ρ w c h => ?_
  rcases hb with ⟨rfl, rfl⟩ | ⟨rfl, rfl⟩ <;> simp [execOp, resolve, invoke, builtin, Builtin.max_, Builtin.min_, h]

end Go.Bvm
