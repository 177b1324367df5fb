/- The abstract machine: a law of one argument whose call is true and leaves what was there alone holds. Conditions: stated in each theorem. -/
import Derived.Test.YtacpnpdggbfkgaaDoorBvmCall
import Derived.ProofKit
set_option linter.unusedVariables false
namespace Go.Bvm
open Go.ChangeShapes Go.WideShapes Go.ChangeAt Go.RowKit

theorem Ext.below {φ φ' : Phi} {n : Nat} {h' : H} {w w' : World} (X : Ext φ ⟨n, t6⟩ w φ' h' w') : Below w.heap.size w w' := by
  have no : ∀ B, ¬ Own φ t6 B := fun B ⟨id, l, _, ho, _⟩ => by rw [hget_t6] at ho; simp [owns] at ho
  exact ⟨X.os, X.tape, X.output, X.size, fun k hk => X.frame k hk (no k)⟩

/-- what is known at the start: nothing -/
theorem Rel.start (w : World) : Rel (fun _ _ => none) ⟨0, t6⟩ w where
  next := by show (0 : Nat) ≤ 262144; omega
  dom := fun id v l h => by simp at h
  blk := fun id _ => by show BlkOk _ _ _ (hget id t6); rw [hget_t6]; trivial
  apart := fun i j _ _ _ ho => by dsimp only at ho; rw [hget_t6] at ho; simp [owns] at ho

/-- opaque slices -/
noncomputable def osl : V := .x .osl V.nil V.nil
noncomputable def osls : Nat → V := fun n => Nat.rec V.nil (fun _ r => .x .cons osl r) n
noncomputable def oslArg (n : Nat) : V := .x .agg (osls n) V.nil

theorem osls_ok {φ : Phi} : ∀ l : List Value, (∀ x, x ∈ l → ∃ A len cap, x = .slice A len cap) → RL φ (osls l.length) l
  | [], _ => .nil
  | x :: r, h => by
    obtain ⟨A, len, cap, rfl⟩ := h x (by simp)
    exact .cons .osl (osls_ok r fun y hy => h y (by simp [hy]))

/-- a struct of n slices, and of nothing else -/
def slicesOnly (P : Program) (t : TypeId) (n : Nat) : Bool := match P.underlying t, P.cellTypes P.depth t with
  | some (.struct _), some ts => Nat.beq ts.length n && Nat.beq (P.cellsOf t) n && ts.all (fun u => match P.underlying u with | some (.slice _) => true | _ => false)
  | _, _ => false

theorem okWide_osl {φ : Phi} {P : Program} {W : World} {base : Nat} {t : TypeId} {n : Nat} {v : Value} (hb : slicesOnly P t n = true) (h : Value.okWide P W .any base t v) : RV φ (oslArg n) v := by
  unfold slicesOnly at hb
  split at hb
  rotate_left
  · simp at hb
  rename_i fs ts ht hts
  simp only [Bool.and_eq_true] at hb
  obtain ⟨⟨h1, h2⟩, hall⟩ := hb
  have h1 := beq_true h1; have h2 := beq_true h2
  unfold Value.okWide at h
  rw [ht] at h
  obtain ⟨⟨l⟩, rfl, hs, ts', e, _, hc⟩ := h
  rw [hts] at e; cases e
  have hs : l.length = ts.length := by rw [h1, ← h2]; exact hs
  have hsl : ∀ x, x ∈ l → ∃ A len cap, x = .slice A len cap := fun x hx => by
    obtain ⟨i, hi, rfl⟩ := List.getElem_of_mem hx
    obtain ⟨u, hu, hk⟩ := hc i l[i] (by simp [hi])
    have hm : u ∈ ts := List.mem_of_getElem? hu
    have := List.all_eq_true.1 hall u hm
    unfold Cell.okWide at hk
    cases hU : P.underlying u with
    | none => rw [hU] at this; simp at this
    | some d =>
      rw [hU] at this hk
      cases d <;> simp at this
      generalize l[i] = x at hk
      cases x <;> simp [Cell.ok, hU] at hk ⊢
  have e : n = l.length := by rw [hs]; exact h1.symm
  rw [e]
  refine .agg (osls_ok l hsl) fun x hx => ?_
  obtain ⟨A, len, cap, rfl⟩ := hsl x hx
  rfl

/-- a law of one argument: it is true, and what it read reads as it did -/
theorem law_lifted {H : Type} {enc : TypeId × Value → H} {C : Checked} {os : Os} {f : FuncId} {fn : Func} {s : ChangeSpec} {t tb : TypeId} {conds : List PathCond}
    (own : ownKnob C.prog.godebug = none) (started : os.Started) (noInit : C.prog.inits.idxOf? f = none) (hfn : C.prog.funcs[f]? = some fn)
    (witness : ∃ (w : World) (tape : Tape) (i : Input), w.os = os ∧ (w.forCall tape i).Shaped C.prog ∧ i.vars = [] ∧ Input.okWide C.prog (w.forCall tape i) .any w.heap.size f i ∧
      s.pre6 enc C.prog fn conds false (w.forCall tape i).memory i.args ∧ ({ modest := false } : Assume).holds C.prog (lone (Frame.enter C.prog f i.args .normal) [] (w.forCall tape i)))
    (hp : fn.params = #[t]) (hr : fn.resultTypes = #[tb]) (htb : C.prog.underlying tb = some .bool) (hv : s.vars = []) (hs : ∀ d, s.fn H [d] = { results := [.lit (.bool true)], args := [d] })
    (hl : laidOutB C.prog = true) (hrd : C.prog.readableRec t = true) (hrow : t < C.prog.types.size)
    (hcall : ∀ (W : World) (base : Nat) (v : Value), Value.okWide C.prog W .any base t v → Calls C.prog f #[v] W fun e W' => e = .returned (.bool true) ∧ Below W.heap.size W W') :
    ReturnsInHanded { modest := false } C os f .any (s.pre6 enc C.prog fn conds false) (s.post enc C.prog fn false true false false) := by
  refine returnsInHanded_of_change own started noInit hfn witness ?_
  intro W base args ds gs before hval hW _ _
  have hW' := hW
  obtain ⟨p, q, hA, hV, rfl, hfz, hnd⟩ := hW
  rw [hp] at hA
  rw [hv] at hV
  obtain ⟨v, d, rfl, rfl, h0⟩ := trodAll_one hA
  obtain ⟨rfl, rfl⟩ := trodVars_none hV
  refine (hcall W base v (hval 0 t v (by rw [hp]; rfl) rfl)).mono fun e W' ⟨he, hb⟩ => ?_
  refine ⟨_, he, [d], [], p ++ [], [], p, [], hW', ?_, ?_, ?_, ?_, fun k => by simp at k⟩
  · rw [hr]
    show DataW.TrodAll enc C.prog W' W.heap.size (fun _ => false) false [tb] [.bool true] (s.fn H ([d] ++ [])).results []
    rw [List.append_nil, hs]
    exact trodAll_mk1 (shut_bool htb true)
  · rw [hp, List.append_nil, hs]
    exact trodAll_mk1 (Below.trod hl hrd hrow h0 hb fun x hx => by have := hW'.lt x (by simp [hx]); simpa using this)
  · rw [hv, List.append_nil, hs]
    exact rfl
  · exact hb.frame _

/-- the call, by the machine -/
theorem law_call {P : Program} (hmix : P.follows .mixedOrders = true) {LF : Nat → List Nat} {OF : Nat → Nat → Option (Nat × List Od)} {lf f : Nat} {G : Nat → Bool} (hG : ∀ g, G g = false) {t : CallF → CallF} (ht : TblOk P G t) {T : CallF → Nat → V → H → KV → Bool} (e : FnEq P G LF OF f T) (hchk : chkF P LF OF f = true) {a : V} (n : Nat)
    (hm : T (run t n) lf (.x .cons a V.nil) ⟨0, t6⟩ (fun v _ => onT v fun b => b) = true) {W : World} {v : Value} (hv : RV (fun _ _ => none) a v) :
    Calls P f #[v] W fun e W' => e = .returned (.bool true) ∧ Below W.heap.size W W' := by
  rw [← e (run t n) lf] at hm
  obtain ⟨h1, h2, h3⟩ := run_ok ht n
  obtain ⟨_, h⟩ := fnF_ok (φ := fun _ _ => none) hmix h1 h2 h3 hchk hm (fun g q hg _ => by rw [hG] at hg; simp at hg) (.cons hv .nil) (Rel.start W)
  refine h.mono ?_
  rintro e w' ⟨c, rfl, v, h', φ', hk, rv, R', X⟩
  obtain ⟨b, rfl, hb⟩ := onT_true hk
  have hb : b = true := hb
  subst hb
  obtain rfl := rv.inv_t
  exact ⟨rfl, X.below⟩

end Go.Bvm
