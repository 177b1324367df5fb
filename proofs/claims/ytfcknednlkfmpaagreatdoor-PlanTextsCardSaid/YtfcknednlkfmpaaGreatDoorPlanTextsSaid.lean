/- The row of the law PlanTexts holds. Conditions: none. -/
import Derived.Test.YtfcknednlkfmpaaGreatDoorRows
import Derived.Test.YtfcknednlkfmpaaGreatDoorPlanTextsLift
set_option maxRecDepth 100000
namespace Go.Proofs.YtfcknednlkfmpaaGreatDoor
open Go.Bvm

theorem planTexts_named : Tryz.pinned.checked.prog.funcNamed Rows.planTextsRow.func = some 3 := by kernel_rfl
theorem planTexts_c1 : (Rows.planTextsRow.wf (OpenSpec.ofChange Rows.planTextsSpec) && laidOutB Tryz.pinned.checked.prog && mapsRowed Tryz.pinned.checked.prog && Tryz.f3.params.all (Tryz.pinned.checked.prog.readableRec ·) && namedTie Tryz.pinned.checked.prog Rows.planTextsRow.named Rows.planTextsSpec.vars && (Rows.planTextsRow.stops == []) && (Tryz.pinned.checked.prog.stops == []) && (Rows.planTextsRow.knobs == []) && (Tryz.pinned.checked.prog.stopKnobs == [])) = true := by kernel_rfl
theorem planTexts_c2 : (Rows.planTextsRow.inPlace == Tryz.pinned.checked.prog.inPlace 3) = true := by kernel_rfl
theorem planTexts_c3 : (Rows.planTextsRow.unfollowed == Tryz.pinned.checked.prog.unfollowed 3) = true := by kernel_rfl
theorem planTexts_c4 : (Rows.planTextsRow.recurses == Tryz.pinned.checked.prog.recurses 3) = true := by kernel_rfl
theorem planTexts_c5 : (Rows.planTextsRow.named == Tryz.pinned.checked.prog.varsNamed 3) = true := by kernel_rfl
theorem planTexts_c6 : ((Rows.planTextsRow.maps == (Tryz.f3.params.toList ++ Rows.planTextsSpec.plain.varTypes Tryz.pinned.checked.prog).any (Tryz.pinned.checked.prog.mapsRec ·)) && (Rows.planTextsRow.ifaces == (Tryz.f3.params.toList ++ Rows.planTextsSpec.plain.varTypes Tryz.pinned.checked.prog).any (Tryz.pinned.checked.prog.ifacesRec ·)) && (Rows.planTextsRow.mapsOut == Tryz.pinned.checked.prog.mapsAmong Tryz.f3.resultTypes.toList) && (Rows.planTextsRow.loops == (Tryz.f3.params.toList ++ Rows.planTextsSpec.plain.varTypes Tryz.pinned.checked.prog).any (Tryz.pinned.checked.prog.loopsFrom ·)) && (Rows.planTextsRow.wideKeys == (Tryz.f3.params.toList ++ Rows.planTextsSpec.plain.varTypes Tryz.pinned.checked.prog ++ Tryz.f3.resultTypes.toList).any (Tryz.pinned.checked.prog.wideKeysFrom ·)) && Rows.planTextsSpec.vars.all (Tryz.pinned.checked.prog.varReadable ·) && Tryz.f3.resultTypes.all (fun t => Tryz.pinned.checked.prog.readableRec t && decide (t < Tryz.pinned.checked.prog.types.size)) && (Rows.planTextsRow.ifacesOut == Tryz.f3.resultTypes.toList.any (Tryz.pinned.checked.prog.ifacesRec ·)) && (Rows.planTextsRow.loopsOut == Tryz.f3.resultTypes.toList.any (Tryz.pinned.checked.prog.loopsFrom ·))) = true := by kernel_rfl
theorem planTexts_c7 : ((Rows.planTextsRow.plainKeys == Tryz.pinned.checked.prog.plainKeys) && Rows.planTextsRow.shortTexts.isNone && Tryz.pinned.checked.prog.stopsHeard && Tryz.pinned.checked.prog.mayEnter && (Rows.planTextsRow.lifted == Tryz.pinned.checked.prog.liftsFinal) && (Tryz.pinned.checked.prog.make == some Rows.planTextsRow.make) && (Rows.planTextsRow.kinds == (if Rows.planTextsRow.domain.isEmpty then [] else Tryz.f3.params.toList.map fun t => match Tryz.pinned.checked.prog.underlying t with | some (.int k) => some k | _ => none)) && (Rows.planTextsRow.pinned == Rows.planTextsRow.pinnedBy) && (Rows.planTextsRow.veiled == (Tryz.f3.params.toList ++ Rows.planTextsSpec.plain.varTypes Tryz.pinned.checked.prog ++ Tryz.f3.resultTypes.toList).any (Tryz.pinned.checked.prog.veiledRec ·)) && Rows.planTextsRow.veiledFits Tryz.pinned.checked.prog Tryz.f3.params.toList (Tryz.f3.params.toList ++ Rows.planTextsSpec.plain.varTypes Tryz.pinned.checked.prog ++ Tryz.f3.resultTypes.toList)) = true := by kernel_rfl
theorem planTexts_closed : joinedFacts Tryz.pinned.checked.prog 3 Tryz.f3 Rows.planTextsSpec Rows.planTextsRow = true := joinedFacts_of planTexts_c1 planTexts_c2 planTexts_c3 planTexts_c4 planTexts_c5 planTexts_c6 planTexts_c7
theorem planTexts_instance : Tryz.f3.isInstance Tryz.pinned.checked.prog Rows.planTextsRow.origin Rows.planTextsRow.targs := of_decide_eq_true (by kernel_rfl)
theorem planTexts_wrapper : Tryz.f3.isWrapper Tryz.pinned.checked.prog Rows.planTextsRow.wrapper Rows.planTextsRow.mainSum := by
  unfold Func.isWrapper; first | (rw [if_pos (by decide +kernel)]; kernel_rfl) | (rw [if_neg (by decide +kernel)]; exact ⟨rfl, rfl⟩)

theorem planTexts_said : Rows.PlanTextsSaid :=
  OpenClaim.holds_of_wide 3 Tryz.f3 rfl rfl rfl rfl rfl rfl rfl ⟨rfl, rfl, rfl, rfl, rfl⟩ rfl rfl rfl rfl rfl planTexts_named Tryz.func3 planTexts_closed planTexts_instance planTexts_wrapper
    (fun os started H enc _ => planTexts_lifted os started H enc)

end Go.Proofs.YtfcknednlkfmpaaGreatDoor
