/- The abstract machine: a law whose row lists package variables; the world that shows that there are such inputs; the card of such a row. Conditions: stated in each theorem. -/
import Derived.Test.YtacpnpdggbfkgaaDoorBvmLaw
import Derived.LaidLaws
import Derived.LaidHandle
import Derived.SevenTiedAt
import Derived.JoinedOf
import Derived.KernelRfl
set_option linter.unusedVariables false
namespace Go.Bvm
open Go.ChangeShapes Go.WideShapes Go.ChangeAt Go.RowKit

/-- the cells of a listed variable -/
def litV : DataW Unit → Value
  | .lit (.int k n) => .int k n
  | _ => .nilIface
noncomputable def laidCells (P : Program) : DataW Unit → Array Value
  | .iface _ (.agg [.ptr (.lit (.string nm))]) => match P.cutTypes.find? (·.1 == "internal/reflectlite.rtype"), (List.range P.types.size).find? (fun t => P.rowNamed t nm) with
    | some r, some t => #[.iface r.2 (.agg #[typeHandle P t])]
    | _, _ => #[]
  | .agg l => (l.map litV).toArray
  | d => #[litV d]
/-- one variable laid -/
noncomputable def layOne (P : Program) (w : World) (x : String × DataW Unit) : World := match P.globalNamed x.1 with
  | some g => { w with heap := w.heap.modify g fun
      | .cells _ t frozen => .cells (laidCells P x.2) t frozen
      | o => o }
  | none => w
noncomputable def layAll (P : Program) : List (String × DataW Unit) → World → World
  | [], w => w
  | x :: r, w => layAll P r (layOne P w x)
theorem layOne_os (P : Program) (w : World) (x : String × DataW Unit) : (layOne P w x).os = w.os := by
  unfold layOne; split <;> rfl
theorem layAll_os (P : Program) : ∀ (l : List (String × DataW Unit)) (w : World), (layAll P l w).os = w.os
  | [], w => rfl
  | x :: r, w => (layAll_os P r _).trans (layOne_os P w x)
noncomputable def laidWorld (P : Program) (os : Os) (laid : List (String × DataW Unit)) : World := layAll P laid (World.holding P os ⟨#[], #[], []⟩)
theorem laidWorld_os (P : Program) (os : Os) (laid : List (String × DataW Unit)) : (laidWorld P os laid).os = os := layAll_os P laid _

/-- a law of one argument whose row lists variables: it is true -/
theorem law_lifted_laid {H : Type} {enc : TypeId × Value → H} {C : Checked} {os : Os} {f : FuncId} {fn : Func} {s : ChangeSpec} {t tb : TypeId} {conds : List PathCond} {laid : List (String × DataW Unit)}
    (own : ownKnob C.prog.godebug = none) (started : os.Started) (noInit : C.prog.inits.idxOf? f = none) (hfn : C.prog.funcs[f]? = some fn)
    (witness : ∃ (w : World) (tape : Tape) (i : Input), w.os = os ∧ (w.forCall tape i).Shaped C.prog ∧ i.vars = [] ∧ Input.okWide C.prog (w.forCall tape i) .any w.heap.size f i ∧
      ((s.pre enc C.prog fn conds false (w.forCall tape i).memory i.args ∧ laidMetH C.prog laid (w.forCall tape i).memory) ∧ sizedMet enc C.prog fn (OpenSpec.ofChange s) false (w.forCall tape i).memory i.args) ∧ ({ modest := false } : Assume).holds C.prog (lone (Frame.enter C.prog f i.args .normal) [] (w.forCall tape i)))
    (hp : fn.params = #[t]) (hr : fn.resultTypes = #[tb]) (htb : C.prog.underlying tb = some .bool) (hv : s.vars = []) (hs : ∀ d, s.fn H [d] = { results := [.lit (.bool true)], args := [d] })
    (hl : laidOutB C.prog = true) (hrd : C.prog.readableRec t = true) (hrow : t < C.prog.types.size)
    (hcall : ∀ (W : World) (base : Nat) (v : Value), Value.okWide C.prog W .any base t v → Calls C.prog f #[v] W fun e W' => e = .returned (.bool true) ∧ Below W.heap.size W W') :
    ReturnsInHanded { modest := false } C os f .any (fun w args => (s.pre enc C.prog fn conds false w args ∧ laidMetH C.prog laid w) ∧ sizedMet enc C.prog fn (OpenSpec.ofChange s) false w args) (s.post enc C.prog fn false true false false) := by
  refine returnsInHanded_of_change_and (X := fun w _ => laidMetH C.prog laid w) (fun _ _ _ hh h => h.of_heap hh) own started noInit hfn witness ?_
  intro W base args ds gs before hval hW _ _ _ _
  have hW' := hW
  obtain ⟨p, q, hA, hV, rfl, hfz, hnd⟩ := hW
  rw [hp] at hA
  rw [hv] at hV
  obtain ⟨v, d, rfl, rfl, h0⟩ := trodAll_one hA
  obtain ⟨rfl, rfl⟩ := trodVars_none hV
  refine (hcall W base v (hval 0 t v (by rw [hp]; rfl) rfl)).mono fun e W' ⟨he, hb⟩ => ?_
  refine ⟨_, he, [d], [], p ++ [], [], p, [], hW', ?_, ?_, ?_, ?_, fun k => by simp at k⟩
  · rw [hr]
    show DataW.TrodAll enc C.prog W' W.heap.size (fun _ => false) false [tb] [.bool true] (s.fn H ([d] ++ [])).results []
    rw [List.append_nil, hs]
    exact trodAll_mk1 (shut_bool htb true)
  · rw [hp, List.append_nil, hs]
    exact trodAll_mk1 (Below.trod hl hrd hrow h0 hb fun x hx => by have := hW'.lt x (by simp [hx]); simpa using this)
  · rw [hv, List.append_nil, hs]
    exact rfl
  · exact hb.frame _

/-- the closed facts of a row, in parts -/
theorem joinedFacts_of {P : Program} {f : FuncId} {fn : Func} {s : ChangeSpec} {c : OpenClaim}
    (h1 : (c.wf (OpenSpec.ofChange s) && laidOutB P && mapsRowed P && fn.params.all (P.readableRec ·) && namedTie P c.named s.vars && (c.stops == []) && (P.stops == []) && (c.knobs == []) && (P.stopKnobs == [])) = true)
    (h2 : (c.inPlace == P.inPlace f) = true) (h3 : (c.unfollowed == P.unfollowed f) = true) (h4 : (c.recurses == P.recurses f) = true) (h5 : (c.named == P.varsNamed f) = true)
    (h6 : ((c.maps == (fn.params.toList ++ s.plain.varTypes P).any (P.mapsRec ·)) && (c.ifaces == (fn.params.toList ++ s.plain.varTypes P).any (P.ifacesRec ·)) && (c.mapsOut == P.mapsAmong fn.resultTypes.toList) &&
      (c.loops == (fn.params.toList ++ s.plain.varTypes P).any (P.loopsFrom ·)) && (c.wideKeys == (fn.params.toList ++ s.plain.varTypes P ++ fn.resultTypes.toList).any (P.wideKeysFrom ·)) &&
      s.vars.all (P.varReadable ·) && fn.resultTypes.all (fun t => P.readableRec t && decide (t < P.types.size)) && (c.ifacesOut == fn.resultTypes.toList.any (P.ifacesRec ·)) && (c.loopsOut == fn.resultTypes.toList.any (P.loopsFrom ·))) = true)
    (h7 : ((c.plainKeys == P.plainKeys) && c.shortTexts.isNone && P.stopsHeard && P.mayEnter && (c.lifted == P.liftsFinal) && (P.make == some c.make) && (c.kinds == (if c.domain.isEmpty then [] else fn.params.toList.map fun t => match P.underlying t with | some (.int k) => some k | _ => none)) && (c.pinned == c.pinnedBy) &&
      (c.veiled == (fn.params.toList ++ s.plain.varTypes P ++ fn.resultTypes.toList).any (P.veiledRec ·)) && c.veiledFits P fn.params.toList (fn.params.toList ++ s.plain.varTypes P ++ fn.resultTypes.toList)) = true) : joinedFacts P f fn s c = true := by
  simp only [Bool.and_eq_true] at h1 h6 h7
  obtain ⟨⟨⟨⟨⟨⟨⟨⟨a1, a2⟩, a3⟩, a4⟩, a5⟩, a6⟩, a7⟩, a8⟩, a9⟩ := h1
  obtain ⟨⟨⟨⟨⟨⟨⟨⟨b1, b2⟩, b3⟩, b4⟩, b5⟩, b6⟩, b7⟩, b8⟩, b9⟩ := h6
  obtain ⟨⟨⟨⟨⟨⟨⟨⟨⟨d1, d2⟩, d3⟩, d4⟩, d5⟩, d6⟩, d7⟩, d8⟩, d9⟩, d10⟩ := h7
  unfold joinedFacts
  simp only [Bool.and_eq_true]
  exact ⟨⟨⟨⟨⟨⟨⟨⟨⟨⟨⟨⟨⟨⟨⟨⟨⟨⟨⟨⟨⟨⟨⟨⟨⟨⟨⟨⟨⟨⟨⟨a1, a2⟩, a3⟩, a4⟩, a5⟩, a6⟩, a7⟩, a8⟩, a9⟩, h2⟩, h3⟩, h4⟩, h5⟩, b1⟩, b2⟩, b3⟩, b4⟩, b5⟩, b6⟩, b7⟩, b8⟩, b9⟩, d1⟩, d2⟩, d3⟩, d4⟩, d5⟩, d6⟩, d7⟩, d8⟩, d9⟩, d10⟩

end Go.Bvm
