/- The abstract machine: functions without a body. Conditions: stated in each theorem. -/
import Derived.Test.YtacpnpdggbfkgaaDoorBvmCall
import Derived.Laws.Externs
import Derived.Lib.Builder
import Derived.Lib.MakeNoZero
set_option linter.unusedVariables false
namespace Go.Bvm
variable {P : Program} {G : Nat → Bool}

noncomputable section
/-- the first place of a byte in a string, from place i on; a word -/
def fnd (c : Nat) : (l n i : Nat) → Nat := Nat.rec (motive := fun _ => Nat → Nat → Nat) (fun _ _ => Nat.sub bias 1) (fun _ ih n i => bs (Nat.beq (Nat.mod n 256) c) (Nat.add i bias) (ih (Nat.div n 256) (Nat.succ i)))
def extSame (l : V) (h : H) (k : KV) : Bool := onCons l fun a r => onNil r (k a h)
def extIdx (l : V) (h : H) (k : KV) : Bool := onCons l fun a r => onCons r fun b r => onNil r (onS a fun m n => onY b fun c => both (Nat.ble m 1000000000) (k (.w (fnd c m n 0)) h))
/-- bytes of which nothing is known -/
def extMnz (e : Nat) (l : V) (h : H) (k : KV) : Bool := onCons l fun a r => onNil r (onW a fun n => both (Nat.ble bias n) (both (Nat.ble (Nat.sub n bias) 4096) (resv 1 h fun id h' =>
  k (.sl id 0 (Nat.sub n bias) 0 1) ⟨h'.next, hset id (.bk (afill (Nat.sub n bias) V.any) (Nat.sub n bias) 0 0 e false true) h'.tr⟩)))
end

theorem EntOk.same {f : Nat} {fn : Func} (hf : P.funcs[f]? = some fn) (hname : (fn.name == "runtime.NumGoroutine") = false) (hb : fn.body.isNone = true) (hn : Extern.findNext fn = none) (he : Extern.find fn = some Extern.AbiNoEscape.same) : EntOk P G f (fun _ => extSame) where
  ok := fun cf _ _ _ l h k hm φ w args hg hl R => by
    obtain ⟨a, r, rfl, hm⟩ := onCons_true hm
    cases hl with
    | cons ha hr =>
      obtain ⟨_, _, rfl, hm⟩ := onNil_true hm
      cases hr
      exact .inl ⟨_, w, by rw [run_callFunc_extern hf hname hb hn he]; rfl, _, h, φ, hm, ha, R, .refl _ _ _⟩
  ret := fun cf _ l h => .onCons fun a r => .onNil (.k _)
  frm := fun cf _ r l h hk => by
    show FrmAt r (fun h (k : V → H → Bool) => onCons l fun a r => onNil r (k a h)) h
    cases l with
    | x g a b =>
      cases g <;> first | exact .no | skip
      show FrmAt r (fun h (k : V → H → Bool) => onNil b (k a h)) h
      cases b with
      | x g a' b' => cases g <;> first | exact .no | exact .k hk _
      | _ => exact .no
    | _ => exact .no

theorem fnd_eq (c : UInt8) : ∀ (bs : List UInt8) (i : Nat), fnd c.toNat bs.length (pack bs) i = match (List.range bs.length).find? (fun j => bs[j]! == c) with | some j => i + j + bias | none => bias - 1
  | [], i => rfl
  | b :: r, i => by
    have h1 : (b.toNat + 256 * pack r) % 256 = b.toNat := by have := b.toNat_lt; omega
    have h2 : (b.toNat + 256 * pack r) / 256 = pack r := by have := b.toNat_lt; omega
    show bs (Nat.beq ((b.toNat + 256 * pack r) % 256) c.toNat) (i + bias) (fnd c.toNat r.length ((b.toNat + 256 * pack r) / 256) (i + 1)) = _
    rw [h1, h2, fnd_eq c r (i + 1), List.length_cons, List.range_succ_eq_map, List.find?_cons]
    by_cases hbc : b = c
    · subst hbc
      simp
    · have : Nat.beq b.toNat c.toNat = false := by
        cases hq : Nat.beq b.toNat c.toNat with
        | false => rfl
        | true => exact absurd (UInt8.toNat_inj.1 (beq_true hq)) hbc
      rw [this, bs_false]
      have h3 : ((b :: r)[0]! == c) = false := by simp [hbc]
      rw [h3, List.find?_map]
      have h4 : ((fun j => (b :: r)[j]! == c) ∘ Nat.succ) = fun j => r[j]! == c := by funext j; simp
      rw [h4]
      cases (List.range r.length).find? (fun j => r[j]! == c) with
      | none => rfl
      | some j => simp; omega

theorem firstIdx_eq (s : ByteArray) (c : UInt8) : firstIdx s c = match (List.range s.data.toList.length).find? (fun j => s.data.toList[j]! == c) with | some j => (j : Int) | none => -1 := by
  unfold firstIdx
  have e1 : s.size = s.data.toList.length := by simp
  rw [e1]
  have e2 : (fun i : Nat => s[i]! == c) = fun j => s.data.toList[j]! == c := by
    funext j
    have e1 : s.size = s.data.size := rfl
    by_cases hj : j < s.size
    · rw [getElem!_pos s j hj, getElem!_pos s.data.toList j (by simpa using hj)]
      rfl
    · rw [getElem!_neg s j hj, getElem!_neg s.data.toList j (by simpa using hj)]
  rw [e2]
  split <;> rename_i h <;> rw [h]

theorem find_lt {n j : Nat} {p : Nat → Bool} (h : (List.range n).find? p = some j) : j < n := by
  simpa using List.mem_of_find?_eq_some h

theorem EntOk.idx {f : Nat} {fn : Func} (hf : P.funcs[f]? = some fn) (hname : (fn.name == "runtime.NumGoroutine") = false) (hb : fn.body.isNone = true) (hn : Extern.findNext fn = none) (he : Extern.find fn = some Extern.BytealgIndexByte.indexByte) : EntOk P G f (fun _ => extIdx) where
  ok := fun cf _ _ _ l h k hm φ w args hg hl R => by
    obtain ⟨a, r, h1, hm1⟩ := onCons_true hm
    rw [h1] at hl
    cases hl with
    | cons ha hr =>
      obtain ⟨b, r', h2, hm2⟩ := onCons_true hm1
      rw [h2] at hr
      cases hr with
      | cons hb' hr =>
        obtain ⟨_, _, h3, hm3⟩ := onNil_true hm2
        rw [h3] at hr
        cases hr
        obtain ⟨m, n, e1, hm4⟩ := onS_true hm3
        obtain ⟨c, e2, hm5⟩ := onY_true hm4
        obtain ⟨hle, hm6⟩ := both_true hm5
        have hle := ble_true hle
        rw [e1] at ha; rw [e2] at hb'
        obtain ⟨s, e3, e4, e5⟩ := ha.inv_s
        obtain ⟨hc, e6⟩ := hb'.inv_y
        subst e3 e6
        refine .inl ⟨_, w, by rw [run_callFunc_extern hf hname hb hn he, run_indexByte_string]; rfl, _, h, φ, hm6, ?_, R, .refl _ _ _⟩
        have hcn : ((c : Int).toNat.toUInt8).toNat = c := by simp; omega
        have hlen : s.data.toList.length = m := by rw [← e4]; simp
        have := fnd_eq ((c : Int).toNat.toUInt8) s.data.toList 0
        rw [hcn, hlen, e5] at this
        rw [this, firstIdx_eq, hlen]
        cases hq : (List.range m).find? (fun j => s.data.toList[j]! == (c : Int).toNat.toUInt8) with
        | none =>
          exact RV.w (φ := φ) (n := 9223372036854775807) (by omega)
        | some j =>
          have := find_lt hq
          dsimp only
          rw [Nat.zero_add]
          exact RV.nat (by omega)
  ret := fun cf _ l h => .onCons fun a r => .onCons fun b r => .onNil (.onS fun m n => .onY fun c => .both (.k _))
  frm := fun cf _ r l h hk => by
    show FrmAt r (fun h (k : V → H → Bool) => onCons l fun a r => onCons r fun b r => onNil r (onS a fun m n => onY b fun c => both (Nat.ble m 1000000000) (k (.w (fnd c m n 0)) h))) h
    cases l with
    | x g a b =>
      cases g <;> first | exact .no | skip
      cases b with
      | x g b c =>
        cases g <;> first | exact .no | skip
        cases c with
        | x g c d =>
          cases g <;> first | exact .no | skip
          cases a <;> first | exact .no | skip
          cases b <;> first | exact .no | skip
          rename_i l n c
          exact FrmAt.both (c := fun _ => Nat.ble l 1000000000) (F := fun h (k : V → H → Bool) => k (V.w (fnd c l n 0)) h) (fun _ => rfl) fun _ => FrmAt.k hk _
        | _ => exact .no
      | _ => exact .no
    | _ => exact .no

theorem digits_one : ∀ (n t : Nat) (acc : Array Value), (∀ v, v ∈ acc → v.oneCell' = true) → ∀ v, v ∈ Extern.BytealgMakeNoZero.digits n t acc → v.oneCell' = true
  | 0, _, acc, h => h
  | n + 1, t, acc, h => by
    rw [Extern.BytealgMakeNoZero.digits]
    refine digits_one n _ _ fun v hv => ?_
    rcases Array.mem_push.1 hv with hv | rfl
    · exact h v hv
    · rfl

theorem run_mnz (w : World) (ps : Array TypeId) (t e : TypeId) (ht : P.underlying t = some (.slice e)) (n : Nat) (hn : n ≤ 281474976710656) :
    ∃ cs : Array Value, (Extern.BytealgMakeNoZero.makeNoZero ps #[t] #[.int .i64 n]).run P w = .ok (.slice (some ⟨w.heap.size, 0, none⟩) n cs.size) (w.drew.drew.alloc (.cells cs e)) ∧ n ≤ cs.size ∧ ∀ v, v ∈ cs → v.oneCell' = true := by
  have hdef : Extern.BytealgMakeNoZero.makeNoZero ps #[t] #[.int .i64 n] =
      (do
        let .slice elem ← underlying t | stuck "bytealg.MakeNoZero: slice type expected"
        if (n : Int) < 0 || (n : Int) > 2 ^ 48 then runtimePanic (.error "makeslice: len out of range")
        let cap ← choose (.appendCap (n : Int).toNat 0 elem)
        askRoom cap
        let bytes ← choose (.extern "internal/bytealg.MakeNoZero.bytes" 0)
        let a ← newRow elem (Extern.BytealgMakeNoZero.digits cap bytes #[])
        pure (.slice (some a) (n : Int).toNat cap)) := rfl
  refine ⟨Extern.BytealgMakeNoZero.digits (grownCap w n 0 e) ((Question.extern "internal/bytealg.MakeNoZero.bytes" 0).cut (w.tape (w.drawn + 1) (.extern "internal/bytealg.MakeNoZero.bytes" 0))) #[], ?_, ?_, ?_⟩
  · rw [hdef]
    have h1 : ¬ (n : Int) < 0 := by omega
    have h2 : ¬ (281474976710656 : Int) < (n : Int) := by omega
    simp [run_underlying ht, h1, h2, Question.forced, newRow, Lib.size_digits, grownCap]
  · rw [Lib.size_digits]
    simpa using grownCap_ge w n 0 e
  · exact digits_one _ _ _ fun v hv => by simp at hv

theorem EntOk.mnz {f : Nat} {fn : Func} {ps : Array TypeId} {t e : TypeId} (hf : P.funcs[f]? = some fn) (hname : (fn.name == "runtime.NumGoroutine") = false) (hb : fn.body.isNone = true) (hn : Extern.findNext fn = none) (he : Extern.find fn = some (Extern.BytealgMakeNoZero.makeNoZero ps #[t])) (ht : P.underlying t = some (.slice e)) : EntOk P G f (fun _ => extMnz e) where
  ok := fun cf _ _ _ l h k hm φ w args hg hl R => by
    obtain ⟨a, r, h1, hm1⟩ := onCons_true hm
    rw [h1] at hl
    cases hl with
    | cons ha hr =>
      obtain ⟨_, _, h2, hm2⟩ := onNil_true hm1
      rw [h2] at hr
      cases hr
      obtain ⟨m, e1, hm3⟩ := onW_true hm2
      obtain ⟨h3, hm4⟩ := both_true hm3
      obtain ⟨h4, hm5⟩ := both_true hm4
      obtain ⟨h5, hm6⟩ := both_true hm5
      have h3 := ble_true h3; have h4 := ble_true h4; have h5 := ble_true h5
      rw [e1] at ha
      obtain ⟨_, rfl⟩ := ha.inv_w
      obtain ⟨n, e2⟩ : ∃ n, n = Nat.sub m bias := ⟨_, rfl⟩
      rw [← e2] at h4 hm6
      have e3 : (m : Int) - 9223372036854775808 = (n : Int) := by
        rw [e2]; show _ = ((m - bias : Nat) : Int)
        unfold bias at h3 ⊢; omega
      obtain ⟨cs, hrun, hle, hone⟩ := run_mnz (P := P) w ps t e ht n (by omega)
      have hnone : ∀ v, φ h.next v = none := fun v => by
        cases hq : φ h.next v with
        | none => rfl
        | some l => have := (R.dom _ _ _ hq).1; omega
      obtain ⟨R', X⟩ := R.new (id := h.next) (nx := h.next + 1) (by omega) (by omega) h5 hnone (T := h.tr) (c := afill n V.any) (n := n) (frz := 0) (elem := e) (ex := false) (cs := cs) (fr := (0, 0)) (base := 0) (B := w.heap.size) (w' := w.drew.drew.alloc (.cells cs e)) (fun _ _ => .inl rfl)
        (acap_afill _ _ h4) (by omega) (fun j hj => by
          have hj2 : j < cs.size := by omega
          refine ⟨cs[j], by rw [Nat.zero_add]; exact Array.getElem?_eq_getElem hj2, ?_, hone _ (Array.getElem_mem _)⟩
          rw [aget_afill _ _ _ (by have := acap_afill n V.any h4; omega)]
          exact .any) (fun k => by simp at k) (fun j _ _ => by simp) (push_new _ _) (by show w.heap.size ≤ (w.heap.push _).size; simp) (fun j hj _ => push_old w.drew.drew _ _ hj) rfl rfl rfl (.inr (Nat.le_refl _))
      refine .inl ⟨_, _, by rw [run_callFunc_extern hf hname hb hn he, e3, hrun]; rfl, _, _, _, hm6, ?_, R', X _ (Nat.le_refl _)⟩
      refine RV.sl (l := ⟨w.heap.size, 0, n, cs.size⟩) (Phi.add_same _ _ _ _) (by show 0 + n * 1 ≤ n; omega) hle (fun _ => rfl) ?_
      show 0 + 0 + cs.size * 1 ≤ cs.size
      omega
  ret := fun cf _ l h => .onCons fun a r => .onNil (.onW fun n => .both (.both (.both (.k _))))
  frm := fun cf _ r l => by
    show FrmG r (fun h (k : V → H → Bool) => onCons l fun a r => onNil r (onW a fun n => both (Nat.ble bias n) (both (Nat.ble (Nat.sub n bias) 4096) (resv 1 h fun id h' =>
      k (.sl id 0 (Nat.sub n bias) 0 1) ⟨h'.next, hset id (.bk (afill (Nat.sub n bias) V.any) (Nat.sub n bias) 0 0 e false true) h'.tr⟩))))
    cases l with
    | x g a b =>
      cases g <;> first | exact .no | skip
      cases b with
      | x g c d =>
        cases g <;> first | exact .no | skip
        cases a <;> first | exact .no | skip
        rename_i n
        intro h hk
        refine FrmAt.both (c := fun _ => Nat.ble bias n) (fun _ => rfl) fun _ => FrmAt.both (c := fun _ => Nat.ble (Nat.sub n bias) 4096) (fun _ => rfl) fun _ => ?_
        exact frm_resv (n := 1) (f := fun id h (k : V → H → Bool) => k (.sl id 0 (Nat.sub n bias) 0 1) ⟨h.next, hset id (.bk (afill (Nat.sub n bias) V.any) (Nat.sub n bias) 0 0 e false true) h.tr⟩)
          (fun id h hk hi => FrmAt.wr hk (hi 0 (by omega)) _ _) h hk
      | _ => exact .no
    | _ => exact .no

end Go.Bvm
