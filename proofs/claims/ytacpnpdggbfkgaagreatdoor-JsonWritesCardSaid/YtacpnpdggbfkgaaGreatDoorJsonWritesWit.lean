/- There are inputs of the law JsonWrites of which its row speaks. Conditions: none. -/
import Derived.Test.YtacpnpdggbfkgaaGreatDoorRows
import Derived.Test.YtacpnpdggbfkgaaGreatDoorBvm4
set_option maxRecDepth 100000
namespace Go.Proofs.YtacpnpdggbfkgaaGreatDoor
open Go.Bvm

/-- one variable laid; an error with a text gets a block of its own -/
noncomputable def layOneS (P : Program) (w : World) (x : String × DataW Unit) : World := match x.2 with
  | .iface nm (.ptr (.agg [.lit (.string b)])) => match P.globalNamed x.1, (List.range P.types.size).find? (fun t => P.typeName? 3 t == some nm) with
    | some g, some u =>
      let hp : Array Obj := w.heap.modify g fun
        | .cells _ t frozen => .cells #[.iface u (.pointer (some ⟨w.heap.size, 0, none⟩))] t frozen
        | o => o
      { w with heap := hp.push (.cells #[.string ⟨b.toArray⟩] (match P.underlying u with | some (.pointer s) => s | _ => 0) (0, 0)) }
    | _, _ => w
  | _ => layOne P w x
noncomputable def layAllS (P : Program) : List (String × DataW Unit) → World → World
  | [], w => w
  | x :: r, w => layAllS P r (layOneS P w x)
theorem layOneS_os (P : Program) (w : World) (x : String × DataW Unit) : (layOneS P w x).os = w.os := by
  unfold layOneS
  split
  · split <;> rfl
  · exact layOne_os P w x
theorem layAllS_os (P : Program) : ∀ (l : List (String × DataW Unit)) (w : World), (layAllS P l w).os = w.os
  | [], _ => rfl
  | x :: r, w => (layAllS_os P r _).trans (layOneS_os P w x)
noncomputable def laidWorldS (P : Program) (os : Os) (laid : List (String × DataW Unit)) : World := layAllS P laid (World.holding P os ⟨#[], #[], []⟩)
theorem laidWorldS_os (P : Program) (os : Os) (laid : List (String × DataW Unit)) : (laidWorldS P os laid).os = os := layAllS_os P laid _

theorem jsonWrites_laid (os : Os) (args : Array Value) : laidMetH Tryz.prog Rows.jsonWritesRow.laid ((laidWorldS Tryz.prog os Rows.jsonWritesRow.laid).forCall (fun _ _ => 0) ⟨#[], args, []⟩).memory :=
  laidMetH_of_parts (laidMet_of_run' 8 (by kernel_rfl) (by kernel_rfl)) (by kernel_rfl)

theorem joinedFacts_of {P : Program} {f : FuncId} {fn : Func} {s : ChangeSpec} {c : OpenClaim}
    (h1 : (c.wf (OpenSpec.ofChange s) && laidOutB P && mapsRowed P && fn.params.all (P.readableRec ·) && namedTie P c.named s.vars && (c.stops == []) && (P.stops == []) && (c.knobs == []) && (P.stopKnobs == [])) = true)
    (h2 : (c.inPlace == P.inPlace f) = true) (h3 : (c.unfollowed == P.unfollowed f) = true) (h4 : (c.recurses == P.recurses f) = true) (h5 : (c.named == P.varsNamed f) = true)
    (h6 : ((c.maps == (fn.params.toList ++ s.plain.varTypes P).any (P.mapsRec ·)) && (c.ifaces == (fn.params.toList ++ s.plain.varTypes P).any (P.ifacesRec ·)) && (c.mapsOut == P.mapsAmong fn.resultTypes.toList) &&
      (c.loops == (fn.params.toList ++ s.plain.varTypes P).any (P.loopsFrom ·)) && (c.wideKeys == (fn.params.toList ++ s.plain.varTypes P ++ fn.resultTypes.toList).any (P.wideKeysFrom ·)) &&
      s.vars.all (P.varReadable ·) && fn.resultTypes.all (fun t => P.readableRec t && decide (t < P.types.size)) && (c.ifacesOut == fn.resultTypes.toList.any (P.ifacesRec ·)) && (c.loopsOut == fn.resultTypes.toList.any (P.loopsFrom ·))) = true)
    (h7 : ((c.plainKeys == P.plainKeys) && c.shortTexts.isNone && P.stopsHeard && P.mayEnter && (c.lifted == P.liftsFinal) && (P.make == some c.make) && (c.kinds == (if c.domain.isEmpty then [] else fn.params.toList.map fun t => match P.underlying t with | some (.int k) => some k | _ => none)) && (c.pinned == c.pinnedBy) &&
      (c.veiled == (fn.params.toList ++ s.plain.varTypes P ++ fn.resultTypes.toList).any (P.veiledRec ·)) && c.veiledFits P fn.params.toList (fn.params.toList ++ s.plain.varTypes P ++ fn.resultTypes.toList)) = true) : joinedFacts P f fn s c = true := by
  simp only [Bool.and_eq_true] at h1 h6 h7
  obtain ⟨⟨⟨⟨⟨⟨⟨⟨a1, a2⟩, a3⟩, a4⟩, a5⟩, a6⟩, a7⟩, a8⟩, a9⟩ := h1
  obtain ⟨⟨⟨⟨⟨⟨⟨⟨b1, b2⟩, b3⟩, b4⟩, b5⟩, b6⟩, b7⟩, b8⟩, b9⟩ := h6
  obtain ⟨⟨⟨⟨⟨⟨⟨⟨⟨d1, d2⟩, d3⟩, d4⟩, d5⟩, d6⟩, d7⟩, d8⟩, d9⟩, d10⟩ := h7
  unfold joinedFacts
  simp only [Bool.and_eq_true]
  exact ⟨⟨⟨⟨⟨⟨⟨⟨⟨⟨⟨⟨⟨⟨⟨⟨⟨⟨⟨⟨⟨⟨⟨⟨⟨⟨⟨⟨⟨⟨⟨a1, a2⟩, a3⟩, a4⟩, a5⟩, a6⟩, a7⟩, a8⟩, a9⟩, h2⟩, h3⟩, h4⟩, h5⟩, b1⟩, b2⟩, b3⟩, b4⟩, b5⟩, b6⟩, b7⟩, b8⟩, b9⟩, d1⟩, d2⟩, d3⟩, d4⟩, d5⟩, d6⟩, d7⟩, d8⟩, d9⟩, d10⟩
end Go.Proofs.YtacpnpdggbfkgaaGreatDoor
