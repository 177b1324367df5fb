/- The row of the law JsonNumbers holds. Conditions: none. -/
import Derived.Test.YtacpnpdggbfkgaaDoorRows
import Derived.Test.YtacpnpdggbfkgaaDoorJsonNumbersLift
set_option maxRecDepth 100000
namespace Go.Proofs.YtacpnpdggbfkgaaDoor
open Go.Bvm

theorem jsonNumbers_named : Tryd.pinned.checked.prog.funcNamed Rows.jsonNumbersRow.func = some 5 := by kernel_rfl
theorem jsonNumbers_c1 : (Rows.jsonNumbersRow.wf (OpenSpec.ofChange Rows.jsonNumbersSpec) && laidOutB Tryd.pinned.checked.prog && mapsRowed Tryd.pinned.checked.prog && Tryd.f5.params.all (Tryd.pinned.checked.prog.readableRec ·) && namedTie Tryd.pinned.checked.prog Rows.jsonNumbersRow.named Rows.jsonNumbersSpec.vars && (Rows.jsonNumbersRow.stops == []) && (Tryd.pinned.checked.prog.stops == []) && (Rows.jsonNumbersRow.knobs == []) && (Tryd.pinned.checked.prog.stopKnobs == [])) = true := by kernel_rfl
theorem jsonNumbers_c2 : (Rows.jsonNumbersRow.inPlace == Tryd.pinned.checked.prog.inPlace 5) = true := by kernel_rfl
theorem jsonNumbers_c3 : (Rows.jsonNumbersRow.unfollowed == Tryd.pinned.checked.prog.unfollowed 5) = true := by kernel_rfl
theorem jsonNumbers_c4 : (Rows.jsonNumbersRow.recurses == Tryd.pinned.checked.prog.recurses 5) = true := by kernel_rfl
theorem jsonNumbers_c5 : (Rows.jsonNumbersRow.named == Tryd.pinned.checked.prog.varsNamed 5) = true := by kernel_rfl
theorem jsonNumbers_c6 : ((Rows.jsonNumbersRow.maps == (Tryd.f5.params.toList ++ Rows.jsonNumbersSpec.plain.varTypes Tryd.pinned.checked.prog).any (Tryd.pinned.checked.prog.mapsRec ·)) && (Rows.jsonNumbersRow.ifaces == (Tryd.f5.params.toList ++ Rows.jsonNumbersSpec.plain.varTypes Tryd.pinned.checked.prog).any (Tryd.pinned.checked.prog.ifacesRec ·)) && (Rows.jsonNumbersRow.mapsOut == Tryd.pinned.checked.prog.mapsAmong Tryd.f5.resultTypes.toList) && (Rows.jsonNumbersRow.loops == (Tryd.f5.params.toList ++ Rows.jsonNumbersSpec.plain.varTypes Tryd.pinned.checked.prog).any (Tryd.pinned.checked.prog.loopsFrom ·)) && (Rows.jsonNumbersRow.wideKeys == (Tryd.f5.params.toList ++ Rows.jsonNumbersSpec.plain.varTypes Tryd.pinned.checked.prog ++ Tryd.f5.resultTypes.toList).any (Tryd.pinned.checked.prog.wideKeysFrom ·)) && Rows.jsonNumbersSpec.vars.all (Tryd.pinned.checked.prog.varReadable ·) && Tryd.f5.resultTypes.all (fun t => Tryd.pinned.checked.prog.readableRec t && decide (t < Tryd.pinned.checked.prog.types.size)) && (Rows.jsonNumbersRow.ifacesOut == Tryd.f5.resultTypes.toList.any (Tryd.pinned.checked.prog.ifacesRec ·)) && (Rows.jsonNumbersRow.loopsOut == Tryd.f5.resultTypes.toList.any (Tryd.pinned.checked.prog.loopsFrom ·))) = true := by kernel_rfl
theorem jsonNumbers_c7 : ((Rows.jsonNumbersRow.plainKeys == Tryd.pinned.checked.prog.plainKeys) && Rows.jsonNumbersRow.shortTexts.isNone && Tryd.pinned.checked.prog.stopsHeard && Tryd.pinned.checked.prog.mayEnter && (Rows.jsonNumbersRow.lifted == Tryd.pinned.checked.prog.liftsFinal) && (Tryd.pinned.checked.prog.make == some Rows.jsonNumbersRow.make) && (Rows.jsonNumbersRow.kinds == (if Rows.jsonNumbersRow.domain.isEmpty then [] else Tryd.f5.params.toList.map fun t => match Tryd.pinned.checked.prog.underlying t with | some (.int k) => some k | _ => none)) && (Rows.jsonNumbersRow.pinned == Rows.jsonNumbersRow.pinnedBy) && (Rows.jsonNumbersRow.veiled == (Tryd.f5.params.toList ++ Rows.jsonNumbersSpec.plain.varTypes Tryd.pinned.checked.prog ++ Tryd.f5.resultTypes.toList).any (Tryd.pinned.checked.prog.veiledRec ·)) && Rows.jsonNumbersRow.veiledFits Tryd.pinned.checked.prog Tryd.f5.params.toList (Tryd.f5.params.toList ++ Rows.jsonNumbersSpec.plain.varTypes Tryd.pinned.checked.prog ++ Tryd.f5.resultTypes.toList)) = true := by kernel_rfl
theorem jsonNumbers_closed : joinedFacts Tryd.pinned.checked.prog 5 Tryd.f5 Rows.jsonNumbersSpec Rows.jsonNumbersRow = true := joinedFacts_of jsonNumbers_c1 jsonNumbers_c2 jsonNumbers_c3 jsonNumbers_c4 jsonNumbers_c5 jsonNumbers_c6 jsonNumbers_c7
theorem jsonNumbers_instance : Tryd.f5.isInstance Tryd.pinned.checked.prog Rows.jsonNumbersRow.origin Rows.jsonNumbersRow.targs := of_decide_eq_true (by kernel_rfl)
theorem jsonNumbers_wrapper : Tryd.f5.isWrapper Tryd.pinned.checked.prog Rows.jsonNumbersRow.wrapper Rows.jsonNumbersRow.mainSum := by
  unfold Func.isWrapper; first | (rw [if_pos (by decide +kernel)]; kernel_rfl) | (rw [if_neg (by decide +kernel)]; exact ⟨rfl, rfl⟩)

theorem jsonNumbers_said : Rows.JsonNumbersSaid :=
  OpenClaim.holds_of_wide 5 Tryd.f5 rfl rfl rfl rfl rfl rfl rfl ⟨rfl, rfl, rfl, rfl, rfl⟩ rfl rfl rfl rfl rfl jsonNumbers_named Tryd.func5 jsonNumbers_closed jsonNumbers_instance jsonNumbers_wrapper
    (fun os started H enc _ => jsonNumbers_lifted os started H enc)

end Go.Proofs.YtacpnpdggbfkgaaDoor
