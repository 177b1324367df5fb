/- The row of the law JsonStrings holds. Conditions: none. -/
import Derived.Test.YtacpnpdggbfkgaaDoorRows
import Derived.Test.YtacpnpdggbfkgaaDoorJsonStringsLift
set_option maxRecDepth 100000
namespace Go.Proofs.YtacpnpdggbfkgaaDoor
open Go.Bvm

theorem jsonStrings_named : Tryd.pinned.checked.prog.funcNamed Rows.jsonStringsRow.func = some 7 := by kernel_rfl
theorem jsonStrings_c1 : (Rows.jsonStringsRow.wf (OpenSpec.ofChange Rows.jsonStringsSpec) && laidOutB Tryd.pinned.checked.prog && mapsRowed Tryd.pinned.checked.prog && Tryd.f7.params.all (Tryd.pinned.checked.prog.readableRec ·) && namedTie Tryd.pinned.checked.prog Rows.jsonStringsRow.named Rows.jsonStringsSpec.vars && (Rows.jsonStringsRow.stops == []) && (Tryd.pinned.checked.prog.stops == []) && (Rows.jsonStringsRow.knobs == []) && (Tryd.pinned.checked.prog.stopKnobs == [])) = true := by kernel_rfl
theorem jsonStrings_c2 : (Rows.jsonStringsRow.inPlace == Tryd.pinned.checked.prog.inPlace 7) = true := by kernel_rfl
theorem jsonStrings_c3 : (Rows.jsonStringsRow.unfollowed == Tryd.pinned.checked.prog.unfollowed 7) = true := by kernel_rfl
theorem jsonStrings_c4 : (Rows.jsonStringsRow.recurses == Tryd.pinned.checked.prog.recurses 7) = true := by kernel_rfl
theorem jsonStrings_c5 : (Rows.jsonStringsRow.named == Tryd.pinned.checked.prog.varsNamed 7) = true := by kernel_rfl
theorem jsonStrings_c6 : ((Rows.jsonStringsRow.maps == (Tryd.f7.params.toList ++ Rows.jsonStringsSpec.plain.varTypes Tryd.pinned.checked.prog).any (Tryd.pinned.checked.prog.mapsRec ·)) && (Rows.jsonStringsRow.ifaces == (Tryd.f7.params.toList ++ Rows.jsonStringsSpec.plain.varTypes Tryd.pinned.checked.prog).any (Tryd.pinned.checked.prog.ifacesRec ·)) && (Rows.jsonStringsRow.mapsOut == Tryd.pinned.checked.prog.mapsAmong Tryd.f7.resultTypes.toList) && (Rows.jsonStringsRow.loops == (Tryd.f7.params.toList ++ Rows.jsonStringsSpec.plain.varTypes Tryd.pinned.checked.prog).any (Tryd.pinned.checked.prog.loopsFrom ·)) && (Rows.jsonStringsRow.wideKeys == (Tryd.f7.params.toList ++ Rows.jsonStringsSpec.plain.varTypes Tryd.pinned.checked.prog ++ Tryd.f7.resultTypes.toList).any (Tryd.pinned.checked.prog.wideKeysFrom ·)) && Rows.jsonStringsSpec.vars.all (Tryd.pinned.checked.prog.varReadable ·) && Tryd.f7.resultTypes.all (fun t => Tryd.pinned.checked.prog.readableRec t && decide (t < Tryd.pinned.checked.prog.types.size)) && (Rows.jsonStringsRow.ifacesOut == Tryd.f7.resultTypes.toList.any (Tryd.pinned.checked.prog.ifacesRec ·)) && (Rows.jsonStringsRow.loopsOut == Tryd.f7.resultTypes.toList.any (Tryd.pinned.checked.prog.loopsFrom ·))) = true := by kernel_rfl
theorem jsonStrings_c7 : ((Rows.jsonStringsRow.plainKeys == Tryd.pinned.checked.prog.plainKeys) && Rows.jsonStringsRow.shortTexts.isNone && Tryd.pinned.checked.prog.stopsHeard && Tryd.pinned.checked.prog.mayEnter && (Rows.jsonStringsRow.lifted == Tryd.pinned.checked.prog.liftsFinal) && (Tryd.pinned.checked.prog.make == some Rows.jsonStringsRow.make) && (Rows.jsonStringsRow.kinds == (if Rows.jsonStringsRow.domain.isEmpty then [] else Tryd.f7.params.toList.map fun t => match Tryd.pinned.checked.prog.underlying t with | some (.int k) => some k | _ => none)) && (Rows.jsonStringsRow.pinned == Rows.jsonStringsRow.pinnedBy) && (Rows.jsonStringsRow.veiled == (Tryd.f7.params.toList ++ Rows.jsonStringsSpec.plain.varTypes Tryd.pinned.checked.prog ++ Tryd.f7.resultTypes.toList).any (Tryd.pinned.checked.prog.veiledRec ·)) && Rows.jsonStringsRow.veiledFits Tryd.pinned.checked.prog Tryd.f7.params.toList (Tryd.f7.params.toList ++ Rows.jsonStringsSpec.plain.varTypes Tryd.pinned.checked.prog ++ Tryd.f7.resultTypes.toList)) = true := by kernel_rfl
theorem jsonStrings_closed : joinedFacts Tryd.pinned.checked.prog 7 Tryd.f7 Rows.jsonStringsSpec Rows.jsonStringsRow = true := joinedFacts_of jsonStrings_c1 jsonStrings_c2 jsonStrings_c3 jsonStrings_c4 jsonStrings_c5 jsonStrings_c6 jsonStrings_c7
theorem jsonStrings_instance : Tryd.f7.isInstance Tryd.pinned.checked.prog Rows.jsonStringsRow.origin Rows.jsonStringsRow.targs := of_decide_eq_true (by kernel_rfl)
theorem jsonStrings_wrapper : Tryd.f7.isWrapper Tryd.pinned.checked.prog Rows.jsonStringsRow.wrapper Rows.jsonStringsRow.mainSum := by
  unfold Func.isWrapper; first | (rw [if_pos (by decide +kernel)]; kernel_rfl) | (rw [if_neg (by decide +kernel)]; exact ⟨rfl, rfl⟩)

theorem jsonStrings_said : Rows.JsonStringsSaid :=
  OpenClaim.holds_of_wide 7 Tryd.f7 rfl rfl rfl rfl rfl rfl rfl ⟨rfl, rfl, rfl, rfl, rfl⟩ rfl rfl rfl rfl rfl jsonStrings_named Tryd.func7 jsonStrings_closed jsonStrings_instance jsonStrings_wrapper
    (fun os started H enc _ => jsonStrings_lifted os started H enc)

end Go.Proofs.YtacpnpdggbfkgaaDoor
