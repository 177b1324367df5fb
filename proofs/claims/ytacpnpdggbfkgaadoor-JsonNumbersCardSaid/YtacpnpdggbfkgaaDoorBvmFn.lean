/- The abstract machine: functions, as they are run. Conditions: none. -/
import Derived.Test.YtacpnpdggbfkgaaDoorBvmVop
set_option linter.unusedVariables false
namespace Go.Bvm
noncomputable section
/-- arguments laid into a frame -/
abbrev argsK (N : Fr) : Nat → Nat → TL → L8 → V → (TL → L8 → Bool) → Bool
  | 0, i, ρ, e, l, k => onNil l (k ρ e)
  | n + 1, i, ρ, e, l, k => onCons l fun a r => match idx N.l i with
    | some j => argsK N n (i + 1) (.c i a ρ) (updL j a e) r k
    | none => argsK N n (i + 1) (.c i a ρ) e r k
/-- a variable's value -/
abbrev ldV (P : Program) (t : TypeId) (a : V) (h : H) (k : V → Bool) : Bool := if oneT P t = true then ld1 a h k else lda (sizeT P t) a h k
/-- results -/
abbrev QF := L8 → H → (V → Bool) → Bool
abbrev resL (P : Program) (N : Fr) : List ResultVar → Option QF
  | [] => some fun _ _ k => k V.nil
  | .tmp t :: r => if t < N.n then (match resL P N r with | some q => some fun e h k => q e h fun l => k (.x .cons (getT N t .n e) l) | none => none) else none
  | .cell c t :: r => if c < N.n ∧ hasT P t = true then (match resL P N r with | some q => some fun e h k => ldV P t (getT N c .n e) h fun v => q e h fun l => k (.x .cons v l) | none => none) else none
abbrev resE (P : Program) (N : Fr) : List ResultVar → Option QF
  | [.tmp t] => if t < N.n then some fun e h k => k (getT N t .n e) else none
  | [.cell c t] => if c < N.n ∧ hasT P t = true then some fun e h k => ldV P t (getT N c .n e) h k else none
  | l => match resL P N l with | some q => some fun e h k => q e h fun l => k (.x .tup l V.nil) | none => none
/-- an exit that leaves the body -/
def finK (q : QF) (k : KV) (x : X) (e : L8) (h : H) : Bool := X.rec (motive := fun _ => Bool) (q e h fun v => k v h) (fun _ => false) (q e h fun v => k v h) x
def noF : V → H → KV → Bool := fun _ _ _ => false

variable (P : Program) (G : Nat → Bool) (LF : Nat → List Nat) (OF : Nat → Nat → Option (Nat × List Od)) (cf : CallF) (lf : Nat)
abbrev fnF (f : Nat) : V → H → KV → Bool := match P.funcs[f]? with
  | some fn => if fn.name == "runtime.NumGoroutine" then noF else if (LF f).length ≤ 64 ∧ fn.params.size + fn.nfree ≤ fn.ntmps then (match fn.body, resE P ⟨fn.ntmps, LF f, OF f⟩ fn.results.toList with
    | some c, some q => fun l h k => argsK ⟨fn.ntmps, LF f, OF f⟩ (fn.params.size + fn.nfree) 0 .n e0 l fun ρ e => exec P G cf lf ⟨fn.ntmps, LF f, OF f⟩ c ρ e h fun x e' h' => finK q k x e' h'
    | _, _ => noF) else noF
  | none => noF
end


end Go.Bvm
