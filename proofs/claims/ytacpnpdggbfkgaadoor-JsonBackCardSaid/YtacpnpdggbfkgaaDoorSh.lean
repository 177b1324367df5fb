/- The function that tells the shape of a node of a value does what its contract says. Printed by a program of this session's for this seat's numbers. Conditions: none. -/
import Derived.RangeFuncBox
import Derived.RangeFuncLeaves
import Derived.Shelf.Abstract
import Derived.WalkKit
import Derived.OwnWalkIn
import Derived.TacticsInMore
import Derived.LoopNIn
import Derived.LoopIn
import Derived.RegionIn
import Derived.Test.YtacpnpdggbfkgaaDoorProg
import Derived.Test.YtacpnpdggbfkgaaDoorBvm4
set_option linter.unusedVariables false
set_option linter.unusedSimpArgs false
namespace Go.Proofs.YtacpnpdggbfkgaaDoor
open Go.RowKit Go.Shelf Go.Bvm

attribute [local go_sem] Oper.semAt_some

/-- what the iterator reads lies as it lay -/
def Kept2 (B b : Nat) (A C : World) : Prop := C.heap[B]? = A.heap[B]? ∧ C.heap[b]? = A.heap[b]?
theorem Kept2.refl (B b : Nat) (A : World) : Kept2 B b A A := ⟨rfl, rfl⟩
theorem Kept2.trans {B b : Nat} {A C D : World} (h : Kept2 B b A C) (k : Kept2 B b C D) : Kept2 B b A D := ⟨k.1.trans h.1, k.2.trans h.2⟩
theorem cell_of_heap {A C : World} {o : Nat} (h : C.heap[o]? = A.heap[o]?) (i : Nat) : C.cell? ⟨o, i, none⟩ = A.cell? ⟨o, i, none⟩ := by
  unfold World.cell?; rw [h]

set_option maxRecDepth 100000 in
set_option maxHeartbeats 4000000 in
theorem back1_in (F : Fence) (n : Nat) (h8 : F.fn 84) (hro : F.round = none) (hn : 1 ≤ n) (l Bs b off cap : Nat) (len : Nat) (z : Nat → Int) (hreach : len * 8 ≤ 140737488351232) (J Jx : List (Nat × Int) → World → Prop)
    (hY : ∀ pre x W, J pre W → pre.length < len → YieldAt F (n - 1) Tryd.prog l #[.int .i64 (x.1 : Int), .int .i64 x.2] W fun e W' =>
      (e = .returned (.bool true) ∧ J (pre ++ [x]) W' ∧ Kept2 Bs b W W') ∨ (e = .returned (.bool false) ∧ Jx (pre ++ [x]) W'))
    (W : World) (hBs : W.cell? ⟨Bs, 0, none⟩ = some (.slice (some ⟨b, off, none⟩) len cap)) (hc : ∀ j, j < len → W.cell? ⟨b, off + j, none⟩ = some (.int .i64 (z j))) (h0 : J [] W) :
    CallsIn F n Tryd.prog 84 #[.func (.yield l) #[] #[], .pointer (some ⟨Bs, 0, none⟩)] W fun e W' => (∃ v, e = .returned v) ∧
      ((∃ ys, ys = uptoS (backF len z) len ∧ J ys W') ∨ (∃ pre, (∃ k, k ≤ len ∧ pre = uptoS (backF len z) k) ∧ Jx pre W')) := by
  refine callsIn_of_wp Tryd.func84 rfl h8 ?_ hro
  simp only [Tryd.ntmps84, List.size_toArray, List.length_cons, List.length_nil, Nat.reduceAdd, Nat.reduceSub, Array.replicate_succ, Array.replicate_zero, List.push_toArray, List.append_toArray, List.nil_append, List.cons_append]
  gi_wp2
  gi_loopw [3] (fun i wr => ∃ k : Nat, k ≤ len ∧ i = .int .i64 ((len : Int) - 1 - k) ∧ J (uptoS (backF len z) k) wr ∧ Kept2 Bs b W wr)
    (fun i _ => (intOf i + 1).toNat)
  case atStart => exact ⟨0, Nat.zero_le _, by simp, h0, Kept2.refl _ _ _⟩
  case round =>
    obtain ⟨k, hk, rfl, hJs, hnx⟩ := hrel
    by_cases hlt : k < len
    · obtain ⟨m, hm⟩ : ∃ m, m = len - 1 - k := ⟨_, rfl⟩
      have hml : m < len := by omega
      have hf : backF len z k = (m, z m) := by rw [backF, ← hm]
      have e1 : (len : Int) - 1 - k = (m : Int) := by omega
      have hm1 : m + k + 1 ≤ len := by omega
      have hm2 : len ≤ m + k + 1 := by omega
      rw [e1]
      clear e1 hm
      have hcx : wr.cell? ⟨b, off + m, none⟩ = some (.int .i64 (z m)) := (cell_of_heap hnx.2 _).trans (hc m hml)
      have hbx : wr.cell? ⟨Bs, 0, none⟩ = some (.slice (some ⟨b, off, none⟩) len cap) := (cell_of_heap hnx.1 _).trans hBs
      obtain ⟨fn, tmps, assign, body, hy, hR⟩ := hY _ (m, z m) wr hJs (by rw [uptoS_length]; exact hlt)
      dsimp only at hy
      gi_wp2
      refine hR.mono ?_
      rintro e W3 (⟨rfl, hJ3, hk3⟩ | ⟨rfl, hJx3⟩)
      · gi_wp2
        go_roundw
        case rel => exact ⟨k + 1, by omega, by congr 1; omega, by rw [uptoS_succ, hf]; exact hJ3, hnx.trans hk3⟩
        case measure => simp [intOf]
      · gi_wp2
        refine bodyPost_ret (results_none rfl _ _ _) rfl ?_
        exact ⟨⟨_, rfl⟩, .inr ⟨_, ⟨k + 1, by omega, (by rw [uptoS_succ, hf])⟩, hJx3⟩⟩
    · have e0 : k = len := by omega
      have e1 : (len : Int) - 1 - k = -1 := by omega
      rw [e1]
      rw [e0] at hJs
      clear e1 e0
      gi_wp2
      go_end0
      exact ⟨⟨_, rfl⟩, .inl ⟨_, rfl, hJs⟩⟩

set_option maxRecDepth 100000 in
set_option maxHeartbeats 1000000 in
theorem back1_nil_in (F : Fence) (n : Nat) (h8 : F.fn 84) (hro : F.round = none) (l Bs : Nat) (a : Option Addr) (cap : Nat) (J : List (Nat × Int) → World → Prop) (W : World) (hBs : W.cell? ⟨Bs, 0, none⟩ = some (.slice a 0 cap)) (h0 : J [] W) :
    CallsIn F n Tryd.prog 84 #[.func (.yield l) #[] #[], .pointer (some ⟨Bs, 0, none⟩)] W fun e W' => (∃ v, e = .returned v) ∧ J [] W' := by
  refine callsIn_of_wp Tryd.func84 rfl h8 ?_ hro
  simp only [Tryd.ntmps84, List.size_toArray, List.length_cons, List.length_nil, Nat.reduceAdd, Nat.reduceSub, Array.replicate_succ, Array.replicate_zero, List.push_toArray, List.append_toArray, List.nil_append, List.cons_append]
  gi_wp2
  gi_loopw [3] (fun i wr => i = .int .i64 (-1) ∧ J [] wr) (fun _ _ => 0)
  case atStart => exact ⟨rfl, h0⟩
  case round =>
    obtain ⟨rfl, hJs⟩ := hrel
    gi_wp2
    go_end0
    exact ⟨⟨_, rfl⟩, hJs⟩

set_option maxHeartbeats 1000000 in
theorem back_in (F : Fence) (n : Nat) (h6 : F.fn 72) (hro : F.round = none) (a : Option Addr) (len cap : Nat) (w : World) :
    CallsIn F n Tryd.prog 72 #[.slice a len cap] w fun e w' => e = .returned (.func (.func 84) #[] #[.pointer (some ⟨w.heap.size, 0, none⟩)]) ∧ w' = w.alloc (.cells #[.slice a len cap] 58) := by
  refine callsIn_of_wp Tryd.func72 rfl h6 ?_ hro
  simp only [Tryd.ntmps72, List.size_toArray, List.length_cons, List.length_nil, Nat.reduceAdd, Nat.reduceSub, Array.replicate_succ, Array.replicate_zero, List.push_toArray, List.append_toArray, List.nil_append, List.cons_append]
  gi_wp2
  go_ret
  exact ⟨rfl, rfl⟩

theorem back_stops (F : Fence) (n : Nat) (h8 : F.fn 84) (hro : F.round = none) (hn : 1 ≤ n) (Bs b : Nat) (sv : Value) (len : Nat) (z : Nat → Int) (hreach : len * 8 ≤ 140737488351232) (w : World) (hBs : Bs < w.heap.size) (hb : b < w.heap.size)
    (hc : w.cell? ⟨Bs, 0, none⟩ = some sv) (hI : IntsAt w b sv len z) :
    SeqStopsK F n Tryd.prog 84 #[.pointer (some ⟨Bs, 0, none⟩)] (fun x : Nat × Int => #[Value.int .i64 (x.1 : Int), Value.int .i64 x.2]) (Kept2 Bs b) (fun ys => ys = uptoS (backF len z) len)
      (fun pre => ∃ k, k ≤ len ∧ pre = uptoS (backF len z) k) len w := fun l J Jx W hW _ _ hY h0 => by
  have hc' := (hW.cell (p := ⟨Bs, 0, none⟩) hBs).trans hc
  rcases hI with ⟨rfl, rfl⟩ | ⟨a, off, cap, rfl, ha, hcs⟩
  · exact (back1_nil_in F n h8 hro l Bs none 0 J W hc' h0).mono fun e W' ⟨he, hj⟩ => ⟨he, .inl ⟨_, rfl, hj⟩⟩
  by_cases hl0 : len = 0
  · subst hl0
    exact (back1_nil_in F n h8 hro l Bs (some a) cap J W hc' h0).mono fun e W' ⟨he, hj⟩ => ⟨he, .inl ⟨_, rfl, hj⟩⟩
  · obtain rfl := ha (by omega)
    exact back1_in F n h8 hro hn l Bs b off cap len z hreach J Jx hY W hc' (fun j hj => (hW.cell (p := ⟨b, off + j, none⟩) hb).trans (hcs j hj)) h0

theorem cell_new {W : World} {c : Array Value} {t : TypeId} {n i : Nat} {v : Value} (hn : W.heap.size = n) (hv : c[i]? = some v) (hf : (0 : Nat) = 0) : (W.alloc (.cells c t)).cell? ⟨n, i, none⟩ = some v ∧ (W.alloc (.cells c t)).frozen? ⟨n, i, none⟩ = false := by
  subst hn
  exact ⟨by rw [World.cell?_alloc_new]; exact hv, by simp⟩
theorem up_new {W : World} {o : Obj} {n i : Nat} {v : Value} (hn : n < W.heap.size) (h : W.cell? ⟨n, i, none⟩ = some v ∧ W.frozen? ⟨n, i, none⟩ = false) : (W.alloc o).cell? ⟨n, i, none⟩ = some v ∧ (W.alloc o).frozen? ⟨n, i, none⟩ = false :=
  ⟨(World.cell?_alloc_lt _ _ ⟨n, i, none⟩ hn).trans h.1, (World.frozen?_alloc_past _ n i hn).trans h.2⟩

/-- the function's own cells between two rounds -/
def ShInv (w : World) (lB lo llen lcap : Nat) (aA : Option Addr) (alen acap i : Nat) (sz dp : Int) (W : World) : Prop :=
  W.cell? ⟨w.heap.size + 1 + 1 + 1 + 1, 0, none⟩ = some (.int .i64 sz) ∧ W.cell? ⟨w.heap.size + 1 + 1 + 1 + 1, 1, none⟩ = some (.int .i64 dp) ∧
  W.cell? ⟨w.heap.size + 1 + 1, 0, none⟩ = some (.int .i64 0) ∧ W.cell? ⟨w.heap.size + 1 + 1, 1, none⟩ = some (.int .i64 0) ∧ W.cell? ⟨w.heap.size + 1 + 1 + 1, 0, none⟩ = some (.bool false) ∧
  W.cell? ⟨w.heap.size, 0, none⟩ = some (.slice aA alen acap) ∧ W.cell? ⟨w.heap.size + 1, 0, none⟩ = some (.int .i64 i) ∧
  W.frozen? ⟨w.heap.size + 1 + 1 + 1 + 1, 0, none⟩ = false ∧ W.frozen? ⟨w.heap.size + 1 + 1 + 1 + 1, 1, none⟩ = false ∧ W.frozen? ⟨w.heap.size + 1 + 1, 0, none⟩ = false ∧ W.frozen? ⟨w.heap.size + 1 + 1, 1, none⟩ = false ∧ W.frozen? ⟨w.heap.size + 1 + 1 + 1, 0, none⟩ = false ∧
  Below w.heap.size w W
/-- .. and at the end -/
def ShEnd (w : World) (sz dp : Int) (ok : Bool) (W : World) : Prop :=
  W.cell? ⟨w.heap.size + 1 + 1, 0, none⟩ = some (.int .i64 sz) ∧ W.cell? ⟨w.heap.size + 1 + 1, 1, none⟩ = some (.int .i64 dp) ∧ W.cell? ⟨w.heap.size + 1 + 1 + 1, 0, none⟩ = some (.bool ok) ∧ Below w.heap.size w W

theorem shEnd_of {w : World} {lB lo llen lcap : Nat} {aA : Option Addr} {alen acap i : Nat} {sz dp : Int} {W : World} (h : ShInv w lB lo llen lcap aA alen acap i sz dp W) (b : Bool) :
    ShEnd w sz dp b (((W.setCell ⟨w.heap.size + 1 + 1, 0, none⟩ (.int .i64 sz)).setCell ⟨w.heap.size + 1 + 1, 1, none⟩ (.int .i64 dp)).setCell ⟨w.heap.size + 1 + 1 + 1, 0, none⟩ (.bool b)) ∧
    KeepsOthers W (((W.setCell ⟨w.heap.size + 1 + 1, 0, none⟩ (.int .i64 sz)).setCell ⟨w.heap.size + 1 + 1, 1, none⟩ (.int .i64 dp)).setCell ⟨w.heap.size + 1 + 1 + 1, 0, none⟩ (.bool b)) := by
  obtain ⟨c8a, c8b, c6a, c6b, c7, c4, c5, f8a, f8b, f6a, f6b, f7, hB⟩ := h
  refine ⟨⟨?_, ?_, ?_, ?_⟩, ((KeepsOthers.setCell _ _ _).trans (KeepsOthers.setCell _ _ _)).trans (KeepsOthers.setCell _ _ _)⟩
  · rw [World.cell?_setCell_other _ _ _ _ (by simp), World.cell?_setCell_other _ _ _ _ (by simp)]
    exact World.cell?_setCell_same _ _ _ c6a
  · rw [World.cell?_setCell_other _ _ _ _ (by simp)]
    exact World.cell?_setCell_same _ _ _ ((World.cell?_setCell_other _ _ _ _ (by simp)).trans c6b)
  · exact World.cell?_setCell_same _ _ _ ((World.cell?_setCell_other _ _ _ _ (by simp)).trans ((World.cell?_setCell_other _ _ _ _ (by simp)).trans c7))
  · exact ((hB.setCell (p := ⟨w.heap.size + 1 + 1, 0, none⟩) (by show _ ≤ _ + 1 + 1; omega) _).setCell (p := ⟨w.heap.size + 1 + 1, 1, none⟩) (by show _ ≤ _ + 1 + 1; omega) _).setCell (p := ⟨w.heap.size + 1 + 1 + 1, 0, none⟩) (by show _ ≤ _ + 1 + 1 + 1; omega) _

theorem shInv_next {w : World} {lB lo llen lcap : Nat} {aA : Option Addr} {alen acap i : Nat} {sz dp : Int} {W : World} (h : ShInv w lB lo llen lcap aA alen acap i sz dp W) (v d : Int) :
    ShInv w lB lo llen lcap aA alen acap i v d ((W.drew.setCell ⟨w.heap.size + 1 + 1 + 1 + 1, 0, none⟩ (.int .i64 v)).drew.setCell ⟨w.heap.size + 1 + 1 + 1 + 1, 1, none⟩ (.int .i64 d)) ∧
    KeepsOthers W ((W.drew.setCell ⟨w.heap.size + 1 + 1 + 1 + 1, 0, none⟩ (.int .i64 v)).drew.setCell ⟨w.heap.size + 1 + 1 + 1 + 1, 1, none⟩ (.int .i64 d)) ∧
    ∀ pB, pB < w.heap.size → Kept2 (w.heap.size + 1 + 1 + 1 + 1 + 1) pB W ((W.drew.setCell ⟨w.heap.size + 1 + 1 + 1 + 1, 0, none⟩ (.int .i64 v)).drew.setCell ⟨w.heap.size + 1 + 1 + 1 + 1, 1, none⟩ (.int .i64 d)) := by
  obtain ⟨c8a, c8b, c6a, c6b, c7, c4, c5, f8a, f8b, f6a, f6b, f7, hB⟩ := h
  have out : ∀ a : Addr, a ≠ ⟨w.heap.size + 1 + 1 + 1 + 1, 0, none⟩ → a ≠ ⟨w.heap.size + 1 + 1 + 1 + 1, 1, none⟩ → ((W.drew.setCell ⟨w.heap.size + 1 + 1 + 1 + 1, 0, none⟩ (.int .i64 v)).drew.setCell ⟨w.heap.size + 1 + 1 + 1 + 1, 1, none⟩ (.int .i64 d)).cell? a = W.cell? a := fun a h1 h2 => by
    rw [World.cell?_setCell_other _ _ _ _ (Ne.symm h2)]
    show (W.drew.setCell _ _).cell? _ = _
    rw [World.cell?_setCell_other _ _ _ _ (Ne.symm h1)]; rfl
  have frz : ∀ a : Addr, ((W.drew.setCell ⟨w.heap.size + 1 + 1 + 1 + 1, 0, none⟩ (.int .i64 v)).drew.setCell ⟨w.heap.size + 1 + 1 + 1 + 1, 1, none⟩ (.int .i64 d)).frozen? a = W.frozen? a := fun a => by
    rw [World.frozen?_setCell]
    show (W.drew.setCell _ _).frozen? _ = _
    rw [World.frozen?_setCell]; rfl
  have k1 : KeepsOthers W W.drew := ⟨Nat.le_refl _, fun k o h _ => h⟩
  have k2 : ∀ X : World, KeepsOthers X X.drew := fun X => ⟨Nat.le_refl _, fun k o h _ => h⟩
  have hh : ∀ k, k ≠ w.heap.size + 1 + 1 + 1 + 1 → ((W.drew.setCell ⟨w.heap.size + 1 + 1 + 1 + 1, 0, none⟩ (.int .i64 v)).drew.setCell ⟨w.heap.size + 1 + 1 + 1 + 1, 1, none⟩ (.int .i64 d)).heap[k]? = W.heap[k]? := fun k hk => by
    have e1 := Below.heap_setCell (W.drew.setCell ⟨w.heap.size + 1 + 1 + 1 + 1, 0, none⟩ (.int .i64 v)).drew ⟨w.heap.size + 1 + 1 + 1 + 1, 1, none⟩ (.int .i64 d) k hk
    have e2 := Below.heap_setCell W.drew ⟨w.heap.size + 1 + 1 + 1 + 1, 0, none⟩ (.int .i64 v) k hk
    exact e1.trans e2
  have g0 : (W.drew.setCell ⟨w.heap.size + 1 + 1 + 1 + 1, 0, none⟩ (.int .i64 v)).cell? ⟨w.heap.size + 1 + 1 + 1 + 1, 0, none⟩ = some (.int .i64 v) := World.cell?_setCell_same _ _ _ c8a
  refine ⟨⟨?_, ?_, ?_, ?_, ?_, ?_, ?_, ?_, ?_, ?_, ?_, ?_, ?_⟩, ?_, fun pB hp => ⟨?_, ?_⟩⟩
  · rw [World.cell?_setCell_other _ _ _ _ (by simp)]; exact g0
  · refine World.cell?_setCell_same _ _ _ (u := .int .i64 dp) ?_
    show (W.drew.setCell _ _).cell? _ = _
    rw [World.cell?_setCell_other _ _ _ _ (by simp)]; exact c8b
  · rw [out _ (by simp) (by simp)]; exact c6a
  · rw [out _ (by simp) (by simp)]; exact c6b
  · rw [out _ (by simp) (by simp)]; exact c7
  · rw [out _ (by simp) (by simp)]; exact c4
  · rw [out _ (by simp) (by simp)]; exact c5
  · rw [frz]; exact f8a
  · rw [frz]; exact f8b
  · rw [frz]; exact f6a
  · rw [frz]; exact f6b
  · rw [frz]; exact f7
  · exact ((Below.drew (hB.drew.setCell (p := ⟨w.heap.size + 1 + 1 + 1 + 1, 0, none⟩) (by show _ ≤ _ + 1 + 1 + 1 + 1; omega) _))).setCell (p := ⟨w.heap.size + 1 + 1 + 1 + 1, 1, none⟩) (by show _ ≤ _ + 1 + 1 + 1 + 1; omega) _
  · exact (((k2 W).trans (KeepsOthers.setCell _ _ _)).trans (k2 _)).trans (KeepsOthers.setCell _ _ _)
  · exact hh _ (by omega)
  · exact hh _ (by omega)

theorem shInv_one {w : World} {lB lo llen lcap : Nat} {aA : Option Addr} {alen acap i : Nat} {sz dp : Int} {W : World} (h : ShInv w lB lo llen lcap aA alen acap i sz dp W) (d : Int) :
    ShInv w lB lo llen lcap aA alen acap i sz d (W.setCell ⟨w.heap.size + 1 + 1 + 1 + 1, 1, none⟩ (.int .i64 d)) := by
  obtain ⟨c8a, c8b, c6a, c6b, c7, c4, c5, f8a, f8b, f6a, f6b, f7, hB⟩ := h
  refine ⟨?_, World.cell?_setCell_same _ _ _ c8b, ?_, ?_, ?_, ?_, ?_, ?_, ?_, ?_, ?_, ?_, hB.setCell (p := ⟨w.heap.size + 1 + 1 + 1 + 1, 1, none⟩) (by show _ ≤ _ + 1 + 1 + 1 + 1; omega) _⟩
  · rw [World.cell?_setCell_other _ _ _ _ (by simp)]; exact c8a
  · rw [World.cell?_setCell_other _ _ _ _ (by simp)]; exact c6a
  · rw [World.cell?_setCell_other _ _ _ _ (by simp)]; exact c6b
  · rw [World.cell?_setCell_other _ _ _ _ (by simp)]; exact c7
  · rw [World.cell?_setCell_other _ _ _ _ (by simp)]; exact c4
  · rw [World.cell?_setCell_other _ _ _ _ (by simp)]; exact c5
  · rw [World.frozen?_setCell]; exact f8a
  · rw [World.frozen?_setCell]; exact f8b
  · rw [World.frozen?_setCell]; exact f6a
  · rw [World.frozen?_setCell]; exact f6b
  · rw [World.frozen?_setCell]; exact f7

set_option maxRecDepth 100000 in
set_option maxHeartbeats 8000000 in
theorem shaped_in (F : Fence) (hFw : Nonempty (PLift (F = Fence.wide))) (hF : ∀ f, F.fn f) (n : Nat) (h3 : F.fn 53) (h6 : F.fn 72) (h8 : F.fn 84) (hro : F.round = none) (hn : 3 ≤ n) (gd : Nat → Prop)
    (lB lo llen lcap aB ao : Nat) (aA : Option Addr) (alen acap : Nat) (hA : 0 < alen → aA = some ⟨aB, ao, none⟩) (i : Nat) (kind : Int) (sa : Option Addr) (slen scap pB len : Nat) (z : Nat → Int) (aS aD : Nat → Int) (w : World)
    (hl : lB < w.heap.size) (ha : aB < w.heap.size) (hp : pB < w.heap.size) (hi : i < llen) (hi2 : i ≤ 1000000000)
    (hkind : w.cell? ⟨lB, lo + i * 5, none⟩ = some (.int .i64 kind)) (hparts : w.cell? ⟨lB, lo + i * 5 + 4, none⟩ = some (.slice sa slen scap))
    (hreach : len * 8 ≤ 140737488351232) (hI : IntsAt w pB (.slice sa slen scap) len z)
    (hS : ∀ j, j < alen → gd j → w.cell? ⟨aB, ao + j * 2, none⟩ = some (.int .i64 (aS j)) ∧ w.cell? ⟨aB, ao + j * 2 + 1, none⟩ = some (.int .i64 (aD j)))
    (hok : ∀ pre : List (Nat × Int), pre.length < len → ∀ sz dp, shSt i aS aD pre = some (sz, dp) → 0 ≤ (i : Int) - sz →
      ((i : Int) - sz).toNat < alen ∧ 1 ≤ aS ((i : Int) - sz).toNat ∧ aS ((i : Int) - sz).toNat ≤ 1000000000 ∧ 0 ≤ aD ((i : Int) - sz).toNat ∧ aD ((i : Int) - sz).toNat ≤ 1000000000 ∧ gd ((i : Int) - sz).toNat) :
    CallsIn F n Tryd.prog 53 #[.slice (some ⟨lB, lo, none⟩) llen lcap, .slice aA alen acap, .int .i64 i] w fun e W' => ∃ sz dp ok, e = .returned (.tuple #[.agg #[.int .i64 sz, .int .i64 dp], .bool ok]) ∧ ShOut i kind aS aD len z sz dp ok ∧ Below w.heap.size w W' := by
  have h1 : 1 ≤ n := by omega
  have hW5 : ∀ o q, o < w.heap.size → (((((w.alloc (.cells #[.slice aA alen acap] 82)).alloc (.cells #[.int .i64 i] 3)).alloc (.cells #[.int .i64 0, .int .i64 0] 85)).alloc (.cells #[.bool false] 4)).alloc (.cells #[.int .i64 1, .int .i64 0] 85)).cell? ⟨o, q, none⟩ = w.cell? ⟨o, q, none⟩ := fun o q ho => by
    rw [World.cell?_alloc_lt _ _ ⟨o, q, none⟩ (by simp; omega), World.cell?_alloc_lt _ _ ⟨o, q, none⟩ (by simp; omega), World.cell?_alloc_lt _ _ ⟨o, q, none⟩ (by simp; omega), World.cell?_alloc_lt _ _ ⟨o, q, none⟩ (by simp; omega), World.cell?_alloc_lt _ _ ⟨o, q, none⟩ ho]
  have hp5 := (hW5 lB (lo + i * 5 + 4) hl).trans hparts
  refine callsIn_of_wp_marks Tryd.func53 rfl h3 ?_ hro
  simp only [Tryd.ntmps53, List.size_toArray, List.length_cons, List.length_nil, Nat.reduceAdd, Nat.reduceSub, Array.replicate_succ, Array.replicate_zero, List.push_toArray, List.append_toArray, List.nil_append, List.cons_append]
  gi_wp2_with (gi_at_call 72; refine (back_in F (n - 1) h6 hro _ _ _ _).mono ?_; rintro e w' ⟨rfl, rfl⟩)
  have hsz6 : ((((((w.alloc (.cells #[.slice aA alen acap] 82)).alloc (.cells #[.int .i64 i] 3)).alloc (.cells #[.int .i64 0, .int .i64 0] 85)).alloc (.cells #[.bool false] 4)).alloc (.cells #[.int .i64 1, .int .i64 0] 85)).alloc (.cells #[.slice sa slen scap] 58)).heap.size = w.heap.size + 6 := by simp
  have bN := Boxed.new (((((w.alloc (.cells #[.slice aA alen acap] 82)).alloc (.cells #[.int .i64 i] 3)).alloc (.cells #[.int .i64 0, .int .i64 0] 85)).alloc (.cells #[.bool false] 4)).alloc (.cells #[.int .i64 1, .int .i64 0] 85)) 58 (.slice sa slen scap)
  simp only [World.size_alloc] at bN
  have hW6 : ∀ o q, o < w.heap.size → ((((((w.alloc (.cells #[.slice aA alen acap] 82)).alloc (.cells #[.int .i64 i] 3)).alloc (.cells #[.int .i64 0, .int .i64 0] 85)).alloc (.cells #[.bool false] 4)).alloc (.cells #[.int .i64 1, .int .i64 0] 85)).alloc (.cells #[.slice sa slen scap] 58)).cell? ⟨o, q, none⟩ = w.cell? ⟨o, q, none⟩ := fun o q ho => by
    rw [World.cell?_alloc_lt _ _ ⟨o, q, none⟩ (by simp; omega)]; exact hW5 o q ho
  have hI6 : IntsAt ((((((w.alloc (.cells #[.slice aA alen acap] 82)).alloc (.cells #[.int .i64 i] 3)).alloc (.cells #[.int .i64 0, .int .i64 0] 85)).alloc (.cells #[.bool false] 4)).alloc (.cells #[.int .i64 1, .int .i64 0] 85)).alloc (.cells #[.slice sa slen scap] 58)) pB (.slice sa slen scap) len z := by
    rcases hI with ⟨e1, e2⟩ | ⟨a, off, cap, e1, ea, e2⟩
    · exact .inl ⟨e1, e2⟩
    · exact .inr ⟨a, off, cap, e1, ea, fun j hj => (hW6 _ _ hp).trans (e2 j hj)⟩
  have h06 : ShInv w lB lo llen lcap aA alen acap i 1 0 ((((((w.alloc (.cells #[.slice aA alen acap] 82)).alloc (.cells #[.int .i64 i] 3)).alloc (.cells #[.int .i64 0, .int .i64 0] 85)).alloc (.cells #[.bool false] 4)).alloc (.cells #[.int .i64 1, .int .i64 0] 85)).alloc (.cells #[.slice sa slen scap] 58)) := by
    have s1 : (w.alloc (.cells #[.slice aA alen acap] 82)).heap.size = w.heap.size + 1 := by simp
    have s2 : ((w.alloc (.cells #[.slice aA alen acap] 82)).alloc (.cells #[.int .i64 i] 3)).heap.size = w.heap.size + 1 + 1 := by simp
    have s3 : (((w.alloc (.cells #[.slice aA alen acap] 82)).alloc (.cells #[.int .i64 i] 3)).alloc (.cells #[.int .i64 0, .int .i64 0] 85)).heap.size = w.heap.size + 1 + 1 + 1 := by simp
    have s4 : ((((w.alloc (.cells #[.slice aA alen acap] 82)).alloc (.cells #[.int .i64 i] 3)).alloc (.cells #[.int .i64 0, .int .i64 0] 85)).alloc (.cells #[.bool false] 4)).heap.size = w.heap.size + 1 + 1 + 1 + 1 := by simp
    have s5 : (((((w.alloc (.cells #[.slice aA alen acap] 82)).alloc (.cells #[.int .i64 i] 3)).alloc (.cells #[.int .i64 0, .int .i64 0] 85)).alloc (.cells #[.bool false] 4)).alloc (.cells #[.int .i64 1, .int .i64 0] 85)).heap.size = w.heap.size + 1 + 1 + 1 + 1 + 1 := by simp
    refine ⟨?_, ?_, ?_, ?_, ?_, ?_, ?_, ?_, ?_, ?_, ?_, ?_, ?_⟩
    · exact (up_new (by rw [s5]; omega) (cell_new s4 (i := 0) rfl rfl)).1
    · exact (up_new (by rw [s5]; omega) (cell_new s4 (i := 1) rfl rfl)).1
    · exact (up_new (by rw [s5]; omega) (up_new (by rw [s4]; omega) (up_new (by rw [s3]; omega) (cell_new s2 (i := 0) rfl rfl)))).1
    · exact (up_new (by rw [s5]; omega) (up_new (by rw [s4]; omega) (up_new (by rw [s3]; omega) (cell_new s2 (i := 1) rfl rfl)))).1
    · exact (up_new (by rw [s5]; omega) (up_new (by rw [s4]; omega) (cell_new s3 (i := 0) rfl rfl))).1
    · exact (up_new (by rw [s5]; omega) (up_new (by rw [s4]; omega) (up_new (by rw [s3]; omega) (up_new (by rw [s2]; omega) (up_new (by rw [s1]; omega) (cell_new rfl (i := 0) rfl rfl)))))).1
    · exact (up_new (by rw [s5]; omega) (up_new (by rw [s4]; omega) (up_new (by rw [s3]; omega) (up_new (by rw [s2]; omega) (cell_new s1 (i := 0) rfl rfl))))).1
    · exact (up_new (by rw [s5]; omega) (cell_new s4 (i := 0) rfl rfl)).2
    · exact (up_new (by rw [s5]; omega) (cell_new s4 (i := 1) rfl rfl)).2
    · exact (up_new (by rw [s5]; omega) (up_new (by rw [s4]; omega) (up_new (by rw [s3]; omega) (cell_new s2 (i := 0) rfl rfl)))).2
    · exact (up_new (by rw [s5]; omega) (up_new (by rw [s4]; omega) (up_new (by rw [s3]; omega) (cell_new s2 (i := 1) rfl rfl)))).2
    · exact (up_new (by rw [s5]; omega) (up_new (by rw [s4]; omega) (cell_new s3 (i := 0) rfl rfl))).2
    · exact ((((((Below.refl _ w).alloc (Nat.le_refl _) _).alloc (by simp) _).alloc (by simp; omega) _).alloc (by simp; omega) _).alloc (by simp; omega) _).alloc (by simp; omega) _
  refine wpIn_rangeFunc_ownG hro h1 (gf := 84) (lb := #[.pointer (some ⟨w.heap.size + 1 + 1 + 1 + 1 + 1, 0, none⟩)]) rfl h8 (enters_of Tryd.func84 (by kernel_rfl) rfl)
    (back_stops F (n - 1) h8 hro (by omega) (w.heap.size + 1 + 1 + 1 + 1 + 1) pB (.slice sa slen scap) len z hreach _ (by rw [hsz6]; omega) (by rw [hsz6]; omega) bN.cell hI6)
    (fun h k => h.trans k) (fun W l o o' hl hh ho hw => by
      have hg := grownBy_putObj' W l o'
      have hlt : l < W.heap.size := (Array.getElem?_eq_some_iff.1 hh).1
      rw [hsz6] at hl
      exact ⟨hg.block _ (by omega) (fun e => by cases e; omega), hg.block _ (by omega) (fun e => by cases e; omega)⟩) (Below.refl _ _) (fun _ => rfl)
    (fun pre W => ∃ sz dp, shSt i aS aD pre = some (sz, dp) ∧ (1 ≤ sz ∧ sz ≤ 2000000000 ∧ 0 ≤ dp ∧ dp ≤ 1000000000) ∧ ShInv w lB lo llen lcap aA alen acap i sz dp W)
    (fun c pre W => c = .ret ∧ ∃ ini last sz dp, pre = ini ++ [last] ∧ shSt i aS aD ini = some (sz, dp) ∧ ¬ (0 ≤ last.2 ∧ last.2 = i - sz) ∧ ShEnd w sz dp false W)
    (fun s A B row hs hg hr => by
      obtain ⟨sz, dp, h1, h2, c8a, c8b, c6a, c6b, c7, c4, c5, f8a, f8b, f6a, f6b, f7, hB⟩ := hs
      have hr' : ∀ r, row = some r → ∃ o : Obj, A.heap[r]? = some o ∧ o.isCells = false := fun r e => (hr r e).2
      exact ⟨sz, dp, h1, h2, cell_kept c8a hg hr', cell_kept c8b hg hr', cell_kept c6a hg hr', cell_kept c6b hg hr', cell_kept c7 hg hr', cell_kept c4 hg hr', cell_kept c5 hg hr',
        (frozen_kept c8a hg hr').trans f8a, (frozen_kept c8b hg hr').trans f8b, (frozen_kept c6a hg hr').trans f6a, (frozen_kept c6b hg hr').trans f6b, (frozen_kept c7 hg hr').trans f7,
        hB.grown hg hB.size fun k e => by have := (hr k e).1; rw [hsz6] at this; omega⟩)
    (fun c s A B row hs hg hr => by
      obtain ⟨h0, ini, last, sz, dp, h1, h2, h3, c6a, c6b, c7, hB⟩ := hs
      have hr' : ∀ r, row = some r → ∃ o : Obj, A.heap[r]? = some o ∧ o.isCells = false := fun r e => (hr r e).2
      exact ⟨h0, ini, last, sz, dp, h1, h2, h3, cell_kept c6a hg hr', cell_kept c6b hg hr', cell_kept c7 hg hr', hB.grown hg hB.size fun k e => by have := (hr k e).1; rw [hsz6] at this; omega⟩)
    ⟨1, 0, rfl, by omega, h06⟩
    (fun x => { tmps := #[.slice (some ⟨lB, lo, none⟩) llen lcap, .slice aA alen acap, .int .i64 i, undef, .pointer (some ⟨w.heap.size, 0, none⟩), .pointer (some ⟨w.heap.size + 1, 0, none⟩), .pointer (some ⟨w.heap.size + 1 + 1, 0, none⟩), .pointer (some ⟨w.heap.size + 1 + 1 + 1, 0, none⟩), .pointer (some ⟨w.heap.size + 1 + 1 + 1 + 1, 0, none⟩), undef, .int .i64 x.2, .agg #[.int .i64 1, .int .i64 0], .slice (some ⟨lB, lo, none⟩) llen lcap, .int .i64 i, .pointer (some ⟨lB, lo + i * 5, none⟩), .pointer (some ⟨lB, lo + i * 5 + 4, none⟩), .slice sa slen scap, .func (.func 84) #[] #[.pointer (some ⟨w.heap.size + 1 + 1 + 1 + 1 + 1, 0, none⟩)], .int .i64 (x.1 : Int), .int .i64 x.2, undef, undef, undef, undef, undef, undef, undef, undef, undef, undef, undef, undef, undef, undef, undef, undef, undef, undef, undef, undef, undef, undef, undef, undef, undef, undef, undef, undef, undef, undef, undef, undef, undef, undef, undef, undef, undef, undef, undef, undef, undef, undef, undef], defers := [] }) ?assign ?body ?done ?stop
  case assign =>
    intro l x W K hK
    gi_wp2
    exact hK
  case body =>
    rintro l pre ⟨x, v⟩ W ⟨sz, dp, hst, ⟨b1, b2, b3, b4⟩, hv⟩ hlen
    have hv := hv
    obtain ⟨c8a, c8b, c6a, c6b, c7, c4, c5, f8a, f8b, f6a, f6b, f7, hB⟩ := hv
    have hwr : wrap64 ((i : Int) - sz) = (i : Int) - sz := by unfold wrap64; omega
    dsimp only
    by_cases hv0 : v < 0
    · gi_wp2
      obtain ⟨n1, n2⟩ := shEnd_of hv false
      exact ⟨n2.from _, rfl, pre, (x, v), sz, dp, rfl, hst, fun h => by have := h.1; dsimp only at this; omega, n1⟩
    · by_cases hv1 : v = (i : Int) - sz
      · obtain ⟨m, rfl⟩ := Int.eq_ofNat_of_zero_le (Int.not_lt.1 hv0)
        have hm : ((i : Int) - sz).toNat = m := by rw [← hv1]; rfl
        obtain ⟨q1, q2, q3, q4, q5, q6⟩ := hok pre hlen sz dp hst (by omega)
        rw [hm] at q1 q2 q3 q4 q5 q6
        have hSa : W.cell? ⟨aB, ao + m * 2, none⟩ = some (.int .i64 (aS m)) := (hB.cell (p := ⟨aB, ao + m * 2, none⟩) ha).trans (hS m q1 q6).1
        have hSd : W.cell? ⟨aB, ao + m * 2 + 1, none⟩ = some (.int .i64 (aD m)) := (hB.cell (p := ⟨aB, ao + m * 2 + 1, none⟩) ha).trans (hS m q1 q6).2
        have hwr' : wrap64 ((i : Int) - sz) = (m : Int) := hwr.trans hv1.symm
        have hms : (m : Int) + sz = (i : Int) := by omega
        clear hwr hv1
        obtain rfl := hA (by omega)
        gi_wp2
        refine Go.Bvm.wpIn_region_still_tail (F := F.inRound l) hF 9 (by kernel_rfl) (Go.Bvm.plain_all (by kernel_rfl)) (by kernel_rfl) ?_
        have d8a : W.drew.cell? ⟨w.heap.size + 1 + 1 + 1 + 1, 0, none⟩ = some (.int .i64 sz) := c8a
        have d8b : W.drew.cell? ⟨w.heap.size + 1 + 1 + 1 + 1, 1, none⟩ = some (.int .i64 dp) := c8b
        have d4 : W.drew.cell? ⟨w.heap.size, 0, none⟩ = some (.slice (some ⟨aB, ao, none⟩) alen acap) := c4
        have dSa : W.drew.cell? ⟨aB, ao + m * 2, none⟩ = some (.int .i64 (aS m)) := hSa
        have dSd : W.drew.cell? ⟨aB, ao + m * 2 + 1, none⟩ = some (.int .i64 (aD m)) := hSd
        have df : W.drew.frozen? ⟨w.heap.size + 1 + 1 + 1 + 1, 0, none⟩ = false := f8a
        generalize hW1 : W.drew = W1 at d8a d8b d4 dSa dSd df ⊢
        simp only [List.take_succ_cons, List.take_zero, List.drop_succ_cons, List.drop_zero]
        repeat still_step
        refine wpStill_nil ?_
        go_wp2
        simp only [Go.Bvm.only, Exit.then]
        refine (‹∀ (a : Act) (w : World), Code.wpIn (F.inRound l) (n - 1 - 1) Tryd.prog _ _ a w → _›) _ _ ?_
        refine Go.Bvm.wpIn_region_still_tail (F := F.inRound l) hF 9 (by kernel_rfl) (Go.Bvm.plain_all (by kernel_rfl)) (by kernel_rfl) ?_
        have e8b : (W1.setCell ⟨w.heap.size + 1 + 1 + 1 + 1, 0, none⟩ (.int .i64 (sz + aS m))).drew.cell? ⟨w.heap.size + 1 + 1 + 1 + 1, 1, none⟩ = some (.int .i64 dp) := by
          show (W1.setCell _ _).cell? _ = _
          rw [World.cell?_setCell_other _ _ _ _ (by simp)]; exact d8b
        have e4 : (W1.setCell ⟨w.heap.size + 1 + 1 + 1 + 1, 0, none⟩ (.int .i64 (sz + aS m))).drew.cell? ⟨w.heap.size, 0, none⟩ = some (.slice (some ⟨aB, ao, none⟩) alen acap) := by
          show (W1.setCell _ _).cell? _ = _
          rw [World.cell?_setCell_other _ _ _ _ (by simp)]; exact d4
        have eSd : (W1.setCell ⟨w.heap.size + 1 + 1 + 1 + 1, 0, none⟩ (.int .i64 (sz + aS m))).drew.cell? ⟨aB, ao + m * 2 + 1, none⟩ = some (.int .i64 (aD m)) := by
          show (W1.setCell _ _).cell? _ = _
          rw [World.cell?_setCell_other _ _ _ _ (by simp)]; exact dSd
        have ef : (W1.setCell ⟨w.heap.size + 1 + 1 + 1 + 1, 0, none⟩ (.int .i64 (sz + aS m))).drew.frozen? ⟨w.heap.size + 1 + 1 + 1 + 1, 1, none⟩ = false := by
          show (W1.setCell _ _).frozen? _ = _
          rw [World.frozen?_setCell, ← hW1]; exact f8b
        generalize hW2 : (W1.setCell ⟨w.heap.size + 1 + 1 + 1 + 1, 0, none⟩ (.int .i64 (sz + aS m))).drew = W2 at e8b e4 eSd ef ⊢
        simp only [List.take_succ_cons, List.take_zero, List.drop_succ_cons, List.drop_zero]
        repeat still_step
        refine wpStill_nil ?_
        go_wp2
        all_goals
          subst hW2 hW1
          simp only [Go.Bvm.only, Exit.inBlock]
        · have := shInv_next hv (sz + aS m) (aD m)
          refine ⟨this.2.1.from _, this.2.2 pB hp, sz + aS m, aD m, ?_, ?_, this.1⟩
          · rw [shSt_snoc, hst]
            show (if 0 ≤ (m : Int) ∧ (m : Int) = i - sz then some (sz + aS (m : Int).toNat, max dp (aD (m : Int).toNat)) else none) = _
            rw [if_pos ⟨by omega, by omega⟩, Int.toNat_natCast, show max dp (aD m) = aD m from by omega]
          · omega
        · have := shInv_next hv (sz + aS m) dp
          refine ⟨this.2.1.from _, this.2.2 pB hp, sz + aS m, dp, ?_, ?_, this.1⟩
          · rw [shSt_snoc, hst]
            show (if 0 ≤ (m : Int) ∧ (m : Int) = i - sz then some (sz + aS (m : Int).toNat, max dp (aD (m : Int).toNat)) else none) = _
            rw [if_pos ⟨by omega, by omega⟩, Int.toNat_natCast, show max dp (aD m) = dp from by omega]
          · omega
      · have hv2 : (v != (i : Int) - sz) = true := by simpa using hv1
        gi_wp2
        obtain ⟨n1, n2⟩ := shEnd_of hv false
        exact ⟨n2.from _, rfl, pre, x, v, rfl, sz, dp, hst, fun _ h => hv1 h, n1⟩
  case done =>
    rintro D ys W hD rfl ⟨sz, dp, hst, ⟨b1, b2, b3, b4⟩, hv⟩ hK
    have hv' := hv
    obtain ⟨c8a, c8b, c6a, c6b, c7, c4, c5, f8a, f8b, f6a, f6b, f7, hB⟩ := hv'
    have hkW : W.cell? ⟨lB, lo + i * 5, none⟩ = some (.int .i64 kind) := (hB.cell (p := ⟨lB, lo + i * 5, none⟩) hl).trans hkind
    by_cases hk6 : 6 ≤ kind
    · gi_wp2
      have hw1 := shInv_one hv (dp + 1)
      have hK1 : (W.setCell ⟨w.heap.size + 1 + 1 + 1 + 1, 1, none⟩ (.int .i64 (dp + 1))).heap[D]? = some (.deferred (some [])) := (KeepsOthers.setCell W _ _).same D _ hK rfl
      have hout : ShOut i kind aS aD len z sz (dp + 1) (decide (dp + 1 ≤ 8)) := .inl ⟨dp, hst, by rw [if_pos hk6], rfl⟩
      generalize hd : dp + 1 = d at hw1 hK1 hout ⊢
      have bd : d ≤ 1000000001 := by omega
      generalize W.setCell ⟨w.heap.size + 1 + 1 + 1 + 1, 1, none⟩ (.int .i64 d) = V at hw1 hK1 ⊢
      have hw2 := hw1
      obtain ⟨c8a, c8b, c6a, c6b, c7, c4, c5, f8a, f8b, f6a, f6b, f7, hB⟩ := hw1
      have d8a : V.drew.cell? ⟨w.heap.size + 1 + 1 + 1 + 1, 0, none⟩ = some (.int .i64 sz) := c8a
      have d8b : V.drew.cell? ⟨w.heap.size + 1 + 1 + 1 + 1, 1, none⟩ = some (.int .i64 d) := c8b
      have d6a : V.drew.cell? ⟨w.heap.size + 1 + 1, 0, none⟩ = some (.int .i64 0) := c6a
      have d6b : V.drew.cell? ⟨w.heap.size + 1 + 1, 1, none⟩ = some (.int .i64 0) := c6b
      have d7 : V.drew.cell? ⟨w.heap.size + 1 + 1 + 1, 0, none⟩ = some (.bool false) := c7
      have q6a : V.drew.frozen? ⟨w.heap.size + 1 + 1, 0, none⟩ = false := f6a
      have q6b : V.drew.frozen? ⟨w.heap.size + 1 + 1, 1, none⟩ = false := f6b
      have q7 : V.drew.frozen? ⟨w.heap.size + 1 + 1 + 1, 0, none⟩ = false := f7
      have hB1 : Below w.heap.size w V.drew := hB.drew
      have hK2 : V.drew.heap[D]? = some (.deferred (some [])) := hK1
      obtain ⟨⟨hFw⟩⟩ := hFw
      subst hFw
      gi_region
      simp only [Exit.then]
      refine (‹∀ (a : Act) (w : World), Code.wpIn Fence.wide n Tryd.prog Code.ret _ a w → _›) _ _ ?_
      have hK3 : (((V.setCell ⟨w.heap.size + 1 + 1, 0, none⟩ (.int .i64 sz)).setCell ⟨w.heap.size + 1 + 1, 1, none⟩ (.int .i64 d)).setCell ⟨w.heap.size + 1 + 1 + 1, 0, none⟩ (.bool (decide (d ≤ 8)))).drew.heap[D]? = some (.deferred (some [])) :=
        (((KeepsOthers.setCell V _ _).trans (KeepsOthers.setCell _ _ _)).trans (KeepsOthers.setCell _ _ _)).same D _ hK1 rfl
      obtain ⟨⟨g1, g2, g3, gB⟩, _⟩ := shEnd_of hw2 (decide (d ≤ 8))
      have g1 : (((V.setCell ⟨w.heap.size + 1 + 1, 0, none⟩ (.int .i64 sz)).setCell ⟨w.heap.size + 1 + 1, 1, none⟩ (.int .i64 d)).setCell ⟨w.heap.size + 1 + 1 + 1, 0, none⟩ (.bool (decide (d ≤ 8)))).drew.cell? ⟨w.heap.size + 1 + 1, 0, none⟩ = some (.int .i64 sz) := g1
      have g2 : (((V.setCell ⟨w.heap.size + 1 + 1, 0, none⟩ (.int .i64 sz)).setCell ⟨w.heap.size + 1 + 1, 1, none⟩ (.int .i64 d)).setCell ⟨w.heap.size + 1 + 1 + 1, 0, none⟩ (.bool (decide (d ≤ 8)))).drew.cell? ⟨w.heap.size + 1 + 1, 1, none⟩ = some (.int .i64 d) := g2
      have g3 : (((V.setCell ⟨w.heap.size + 1 + 1, 0, none⟩ (.int .i64 sz)).setCell ⟨w.heap.size + 1 + 1, 1, none⟩ (.int .i64 d)).setCell ⟨w.heap.size + 1 + 1 + 1, 0, none⟩ (.bool (decide (d ≤ 8)))).drew.cell? ⟨w.heap.size + 1 + 1 + 1, 0, none⟩ = some (.bool (decide (d ≤ 8))) := g3
      have gB := gB.drew
      generalize (((V.setCell ⟨w.heap.size + 1 + 1, 0, none⟩ (.int .i64 sz)).setCell ⟨w.heap.size + 1 + 1, 1, none⟩ (.int .i64 d)).setCell ⟨w.heap.size + 1 + 1 + 1, 0, none⟩ (.bool (decide (d ≤ 8)))).drew = V3 at hK3 g1 g2 g3 gB ⊢
      gi_wp2
      refine ⟨by simp, .inl ⟨_, _, rfl, run_takeDeferred hK3, ?_⟩⟩
      have r1 := cell_kept g1 (grownBy_putObj' _ D (.deferred none)) (fun r e => by cases e; exact ⟨_, hK3, rfl⟩)
      have r2 := cell_kept g2 (grownBy_putObj' _ D (.deferred none)) (fun r e => by cases e; exact ⟨_, hK3, rfl⟩)
      have r3 := cell_kept g3 (grownBy_putObj' _ D (.deferred none)) (fun r e => by cases e; exact ⟨_, hK3, rfl⟩)
      refine ⟨.tuple #[.agg #[.int .i64 sz, .int .i64 d], .bool (decide (d ≤ 8))], ?_, sz, d, _, rfl, hout, gB.trans (belowK_b (w := w) (Nat.le_refl _) _ D _ _ (by simp at hD; omega) hK3 rfl rfl)⟩
      simp [results, Tryd.f53, go_sem, r1, r2, r3]
    · gi_wp2
      have hw1 := hv
      have hK1 := hK
      have hout : ShOut i kind aS aD len z sz dp (decide (dp ≤ 8)) := .inl ⟨dp, hst, by rw [if_neg (by omega)], rfl⟩
      generalize hd : dp = d at hw1 hK1 hout ⊢
      have bd : d ≤ 1000000001 := by omega
      generalize hV0 : W = V at hw1 hK1 ⊢
      have hw2 := hw1
      obtain ⟨c8a, c8b, c6a, c6b, c7, c4, c5, f8a, f8b, f6a, f6b, f7, hB⟩ := hw1
      have d8a : V.drew.cell? ⟨w.heap.size + 1 + 1 + 1 + 1, 0, none⟩ = some (.int .i64 sz) := c8a
      have d8b : V.drew.cell? ⟨w.heap.size + 1 + 1 + 1 + 1, 1, none⟩ = some (.int .i64 d) := c8b
      have d6a : V.drew.cell? ⟨w.heap.size + 1 + 1, 0, none⟩ = some (.int .i64 0) := c6a
      have d6b : V.drew.cell? ⟨w.heap.size + 1 + 1, 1, none⟩ = some (.int .i64 0) := c6b
      have d7 : V.drew.cell? ⟨w.heap.size + 1 + 1 + 1, 0, none⟩ = some (.bool false) := c7
      have q6a : V.drew.frozen? ⟨w.heap.size + 1 + 1, 0, none⟩ = false := f6a
      have q6b : V.drew.frozen? ⟨w.heap.size + 1 + 1, 1, none⟩ = false := f6b
      have q7 : V.drew.frozen? ⟨w.heap.size + 1 + 1 + 1, 0, none⟩ = false := f7
      have hB1 : Below w.heap.size w V.drew := hB.drew
      have hK2 : V.drew.heap[D]? = some (.deferred (some [])) := hK1
      obtain ⟨⟨hFw⟩⟩ := hFw
      subst hFw
      gi_region
      simp only [Exit.then]
      refine (‹∀ (a : Act) (w : World), Code.wpIn Fence.wide n Tryd.prog Code.ret _ a w → _›) _ _ ?_
      have hK3 : (((V.setCell ⟨w.heap.size + 1 + 1, 0, none⟩ (.int .i64 sz)).setCell ⟨w.heap.size + 1 + 1, 1, none⟩ (.int .i64 d)).setCell ⟨w.heap.size + 1 + 1 + 1, 0, none⟩ (.bool (decide (d ≤ 8)))).drew.heap[D]? = some (.deferred (some [])) :=
        (((KeepsOthers.setCell V _ _).trans (KeepsOthers.setCell _ _ _)).trans (KeepsOthers.setCell _ _ _)).same D _ hK1 rfl
      obtain ⟨⟨g1, g2, g3, gB⟩, _⟩ := shEnd_of hw2 (decide (d ≤ 8))
      have g1 : (((V.setCell ⟨w.heap.size + 1 + 1, 0, none⟩ (.int .i64 sz)).setCell ⟨w.heap.size + 1 + 1, 1, none⟩ (.int .i64 d)).setCell ⟨w.heap.size + 1 + 1 + 1, 0, none⟩ (.bool (decide (d ≤ 8)))).drew.cell? ⟨w.heap.size + 1 + 1, 0, none⟩ = some (.int .i64 sz) := g1
      have g2 : (((V.setCell ⟨w.heap.size + 1 + 1, 0, none⟩ (.int .i64 sz)).setCell ⟨w.heap.size + 1 + 1, 1, none⟩ (.int .i64 d)).setCell ⟨w.heap.size + 1 + 1 + 1, 0, none⟩ (.bool (decide (d ≤ 8)))).drew.cell? ⟨w.heap.size + 1 + 1, 1, none⟩ = some (.int .i64 d) := g2
      have g3 : (((V.setCell ⟨w.heap.size + 1 + 1, 0, none⟩ (.int .i64 sz)).setCell ⟨w.heap.size + 1 + 1, 1, none⟩ (.int .i64 d)).setCell ⟨w.heap.size + 1 + 1 + 1, 0, none⟩ (.bool (decide (d ≤ 8)))).drew.cell? ⟨w.heap.size + 1 + 1 + 1, 0, none⟩ = some (.bool (decide (d ≤ 8))) := g3
      have gB := gB.drew
      generalize (((V.setCell ⟨w.heap.size + 1 + 1, 0, none⟩ (.int .i64 sz)).setCell ⟨w.heap.size + 1 + 1, 1, none⟩ (.int .i64 d)).setCell ⟨w.heap.size + 1 + 1 + 1, 0, none⟩ (.bool (decide (d ≤ 8)))).drew = V3 at hK3 g1 g2 g3 gB ⊢
      gi_wp2
      refine ⟨by simp, .inl ⟨_, _, rfl, run_takeDeferred hK3, ?_⟩⟩
      have r1 := cell_kept g1 (grownBy_putObj' _ D (.deferred none)) (fun r e => by cases e; exact ⟨_, hK3, rfl⟩)
      have r2 := cell_kept g2 (grownBy_putObj' _ D (.deferred none)) (fun r e => by cases e; exact ⟨_, hK3, rfl⟩)
      have r3 := cell_kept g3 (grownBy_putObj' _ D (.deferred none)) (fun r e => by cases e; exact ⟨_, hK3, rfl⟩)
      refine ⟨.tuple #[.agg #[.int .i64 sz, .int .i64 d], .bool (decide (d ≤ 8))], ?_, sz, d, _, rfl, hout, gB.trans (belowK_b (w := w) (Nat.le_refl _) _ D _ _ (by simp at hD; omega) hK3 rfl rfl)⟩
      simp [results, Tryd.f53, go_sem, r1, r2, r3]
  case stop =>
    rintro D c pre W hD ⟨k, hk, rfl⟩ ⟨rfl, ini, last, sz, dp, e1, e2, e3, hE⟩ hK
    obtain ⟨c6a, c6b, c7, hB⟩ := hE
    gi_wp2
    refine ⟨by simp, .inl ⟨_, _, rfl, run_takeDeferred hK, ?_⟩⟩
    have r1 := cell_kept c6a (grownBy_putObj' _ D (.deferred none)) (fun r e => by cases e; exact ⟨_, hK, rfl⟩)
    have r2 := cell_kept c6b (grownBy_putObj' _ D (.deferred none)) (fun r e => by cases e; exact ⟨_, hK, rfl⟩)
    have r3 := cell_kept c7 (grownBy_putObj' _ D (.deferred none)) (fun r e => by cases e; exact ⟨_, hK, rfl⟩)
    obtain ⟨k', rfl⟩ : ∃ k', k = k' + 1 := by
      cases k with
      | zero => simp [uptoS] at e1
      | succ k' => exact ⟨k', rfl⟩
    rw [uptoS_succ] at e1
    obtain ⟨rfl, e5⟩ := List.append_inj' e1 rfl
    obtain rfl : backF len z k' = last := by simpa using e5
    refine ⟨.tuple #[.agg #[.int .i64 sz, .int .i64 dp], .bool false], ?_, sz, dp, false, rfl, .inr ⟨rfl, k', by omega, e2, e3⟩, hB.trans (belowK_b (w := w) (Nat.le_refl _) W D _ _ (by simp at hD; omega) hK rfl rfl)⟩
    simp [results, Tryd.f53, go_sem, r1, r2, r3]
theorem sh_ok : ShC Tryd.prog 53 := fun gd lB lo llen lcap aB ao aA alen acap hA i kind sa slen scap pB len z aS aD w hl ha hp hi hi2 hk hpa hr hI hS hok =>
  callsIn_wide.1 (shaped_in Fence.wide ⟨⟨rfl⟩⟩ (fun _ => trivial) 3 trivial trivial trivial rfl (Nat.le_refl _) gd lB lo llen lcap aB ao aA alen acap hA i kind sa slen scap pB len z aS aD w hl ha hp hi hi2 hk hpa hr hI hS hok)
theorem sh_ent {G : Nat → Bool} : EntOk Tryd.prog G 53 (fun _ => extSh) := .sh (enters_call Tryd.func53 (by kernel_rfl) (by kernel_rfl)) sh_ok
end Go.Proofs.YtacpnpdggbfkgaaDoor
