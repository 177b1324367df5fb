/- A region that draws its order, inside a round of a loop over an iterator: reads first, and one write at the end. Conditions: stated in each theorem. -/
import Derived.StillTailTactics
import Derived.OrdersIn
import Derived.RangeFuncCalls
set_option linter.unusedVariables false
namespace Go.Bvm
open Go

/-- an operation that hands back a value, or none, or stops -/
def Plain (o : Oper) : Prop := (∀ c, o.op ≠ .defer c) ∧ ∀ (P : Program) (ρ : Operand → Value) (w : World), (∃ v w', (execOp ρ o).run P w = .ok (.value v) w') ∨ (∃ w', (execOp ρ o).run P w = .ok .skip w') ∨ ∃ e w', (execOp ρ o).run P w = .halt e w'

theorem res_v (P : Program) (s : Sem Value) (w : World) : (∃ v w', (s.bind fun v => pure (Next.value v)).run P w = .ok (.value v) w') ∨ (∃ w', (s.bind fun v => pure (Next.value v)).run P w = .ok .skip w') ∨ ∃ e w', (s.bind fun v => pure (Next.value v)).run P w = .halt e w' := by
  rw [Sem.run_bind']
  cases s.run P w with
  | ok v w' => exact .inl ⟨v, w', rfl⟩
  | halt e w' => exact .inr (.inr ⟨e, w', rfl⟩)
theorem res_u (P : Program) (s : Sem Unit) (w : World) : (∃ v w', (s.bind fun _ => pure Next.skip).run P w = .ok (.value v) w') ∨ (∃ w', (s.bind fun _ => pure Next.skip).run P w = .ok .skip w') ∨ ∃ e w', (s.bind fun _ => pure Next.skip).run P w = .halt e w' := by
  rw [Sem.run_bind']
  cases s.run P w with
  | ok v w' => exact .inr (.inl ⟨w', rfl⟩)
  | halt e w' => exact .inr (.inr ⟨e, w', rfl⟩)

/-- which operations are so -/
def plainB (o : Oper) : Bool := match o.op with
  | .load .. | .store .. | .fieldAddr .. | .indexAddr .. | .move _ | .binOp .. => true
  | .call ⟨.builtin .max, _, _⟩ => true
  | _ => false
theorem plain_of {o : Oper} (h : plainB o = true) : Plain o := by
  obtain ⟨dst, op, ty, pos, aft, grd⟩ := o
  unfold plainB at h
  split at h
  all_goals first
    | (rename_i ho; simp only at ho; subst ho; exact ⟨fun c e => by simp at e, fun P ρ w => res_v P _ w⟩)
    | (rename_i ho; simp only at ho; subst ho; exact ⟨fun c e => by simp at e, fun P ρ w => res_u P _ w⟩)
    | (rename_i ho; simp only at ho; subst ho; exact ⟨fun c e => by simp at e, fun P ρ w => .inl ⟨_, _, rfl⟩⟩)
    | (simp at h; done)
    | skip
theorem plain_all {l : List Oper} (h : l.all plainB = true) (i : Nat) (o : Oper) (ho : l.toArray[i]? = some o) : Plain o :=
  plain_of (List.all_eq_true.1 h o (by have := Array.mem_of_getElem? ho; simpa using this))

def openIn (l : Nat) : Fence := Fence.wide.inRound l

theorem wpOpIn_of_plain {F : Fence} (hF : ∀ f, F.fn f) {n : Nat} {P : Program} {ops : Array Oper} (hp : ∀ (i : Nat) (o : Oper), ops[i]? = some o → Plain o) {Q : Exit → Act → World → Prop} {Q' : Exit → Act → World → Prop} (hL : ¬ LetsOut Q') (hQ' : ∀ c a w, ¬ Q' (.panic c) a w) {i : Nat} {K : Act → World → Prop} {a : Act} {w : World}
    (h : wpOp P ops Q' i K a w) : wpOpIn F n P ops Q i K a w := by
  unfold wpOp at h
  unfold wpOpIn
  cases ho : ops[i]? with
  | none => rw [ho] at h; exact h
  | some o =>
    rw [ho] at h
    dsimp only at h ⊢
    split <;> rename_i hw
    · rw [if_pos hw] at h
      rcases h with h | ⟨_, h⟩
      · refine ⟨fun f _ => hF f, ?_⟩
        rw [Oper.semAt_eq _ _ _ (hp i o ho).1]
        unfold Oper.wp at h
        rcases (hp i o ho).2 P a.eval w with ⟨v, w', e⟩ | ⟨w', e⟩ | ⟨e0, w', e⟩
        · rw [e] at h ⊢; exact h
        · rw [e] at h ⊢; exact h
        · rw [e] at h ⊢
          cases e0 <;> first | exact absurd h (hQ' _ _ _) | exact h
      · exact absurd h hL
    · rw [if_neg hw] at h
      exact ⟨fun f _ => hF f, h⟩

theorem wpAnyIn_of_plain {F : Fence} (hF : ∀ f, F.fn f) {n : Nat} {P : Program} {md : Region.Mode} {ops : Array Oper} (hp : ∀ (i : Nat) (o : Oper), ops[i]? = some o → Plain o) {Q Q' : Exit → Act → World → Prop} (hL : ¬ LetsOut Q') (hQ' : ∀ c a w, ¬ Q' (.panic c) a w) (hN : ∀ a w, Q' .normal a w → Q .normal a w) :
    ∀ (fuel : Nat) (listed : Array Bool) (a : Act) (w : World), wpAny P md ops Q' fuel listed a w → wpAnyIn F n P md ops Q fuel listed a w
  | 0, _, _, _, h => ⟨h.1, hN _ _ h.2⟩
  | fuel + 1, listed, a, w, h => ⟨fun hr => hN _ _ (h.1 hr), fun i hi => wpOpIn_of_plain hF hp hL hQ' (wpOp_mono (fun a w h => wpAnyIn_of_plain hF hp hL hQ' hN fuel _ a w h) (h.2 i hi))⟩

/-- what the region's end is to be: no way out but the normal one -/
def only (K : Act → World → Prop) : Exit → Act → World → Prop
  | .normal, a, w => K a w
  | _, _, _ => False
theorem only_out (K : Act → World → Prop) : ¬ LetsOut (only K) := by
  intro h
  unfold LetsOut at h
  first | exact h | (obtain ⟨a, w, h⟩ := h; exact h) | exact h default default

theorem wpAny_still_tail {P : Program} {Q : Exit → Act → World → Prop} {a : Act} {w : World} {l : List Oper} (n : Nat) (hB : Region.lexTailB .any l.toArray n = true)
    (h : wpStill P l.toArray { w with drawn := w.drawn + 1 } (fun a' => wpList P l.toArray Q (l.drop n) a' { w with drawn := w.drawn + 1 }) (l.take n) a) : wpAny P .any l.toArray Q l.toArray.size (Array.replicate l.toArray.size false) a { w with drawn := w.drawn + 1 } := by
  simp only [Region.lexTailB, Bool.and_eq_true, decide_eq_true_eq] at hB
  obtain ⟨⟨⟨⟨hsel, hn⟩, hs⟩, hc⟩, hlex⟩ := hB
  have hn' : n < l.length := by simpa using hn
  have htl : (l.take n).length = n := by simp; omega
  have hdl : (l.drop n).length = l.toArray.size - n := by simp
  have inv0 : HeadInv .any l.toArray n (Array.replicate l.toArray.size false) :=
    ⟨by simp, fun j oj _ hl => (by rw [getD_replicate_false] at hl; cases hl), fun t _ ht => getD_in (by simpa using ht) (getD_replicate_false _ _)⟩
  have H := wpAnyL_lex (md := .any) (g := l.toArray.size - n) hsel hs hc hn (l.take n) 0 _ a (fun j hj => by
    have hj' : j < n := by rw [htl] at hj; exact hj
    simp [hj']) (by simpa using htl) inv0 (by rw [htl]; exact hlex) h
  have := wpAny_of_head (Q' := Q) (g := l.toArray.size - n) (fun listed a' hL => by
    have := wpAny_of_seq (md := .any) (Q' := Q) (l.drop n) n listed a' { w with drawn := w.drawn + 1 } (fun j => by simp [List.getElem?_drop]) (by rw [hdl]; exact hL.1) hL.2
    rwa [hdl] at this) _ _ _ H
  rw [htl, show n + (l.toArray.size - n) = l.toArray.size by omega] at this
  exact this

theorem wpIn_region_still_tail {F : Fence} (hF : ∀ f, F.fn f) {m : Nat} {P : Program} {id : Nat} {Q : Exit → Act → World → Prop} {a : Act} {w : World} {l : List Oper} (n : Nat) (hm : P.follows .mixedOrders = true) (hp : ∀ (i : Nat) (o : Oper), l.toArray[i]? = some o → Plain o) (hB : Region.lexTailB .any l.toArray n = true)
    (h : wpStill P l.toArray w.drew (fun a' => wpList P l.toArray (only (Q .normal)) (l.drop n) a' w.drew) (l.take n) a) : (Code.region id l.toArray true).wpIn F m P Q a w :=
  wpIn_region_any hm (wpAnyIn_of_plain (Q := Q) (Q' := only (Q .normal)) hF hp (only_out _) (fun _ _ _ h => h) (fun _ _ h => h) _ _ _ _ (wpAny_still_tail n hB h))

end Go.Bvm
