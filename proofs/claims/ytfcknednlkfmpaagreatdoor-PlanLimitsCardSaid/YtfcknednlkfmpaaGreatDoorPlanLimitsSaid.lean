/- The row of the law PlanLimits holds. Conditions: none. -/
import Derived.Test.YtfcknednlkfmpaaGreatDoorRows
import Derived.Test.YtfcknednlkfmpaaGreatDoorPlanLimitsLift
set_option maxRecDepth 100000
namespace Go.Proofs.YtfcknednlkfmpaaGreatDoor
open Go.Bvm

theorem planLimits_named : Tryz.pinned.checked.prog.funcNamed Rows.planLimitsRow.func = some 4 := by kernel_rfl
theorem planLimits_c1 : (Rows.planLimitsRow.wf (OpenSpec.ofChange Rows.planLimitsSpec) && laidOutB Tryz.pinned.checked.prog && mapsRowed Tryz.pinned.checked.prog && Tryz.f4.params.all (Tryz.pinned.checked.prog.readableRec ·) && namedTie Tryz.pinned.checked.prog Rows.planLimitsRow.named Rows.planLimitsSpec.vars && (Rows.planLimitsRow.stops == []) && (Tryz.pinned.checked.prog.stops == []) && (Rows.planLimitsRow.knobs == []) && (Tryz.pinned.checked.prog.stopKnobs == [])) = true := by kernel_rfl
theorem planLimits_c2 : (Rows.planLimitsRow.inPlace == Tryz.pinned.checked.prog.inPlace 4) = true := by kernel_rfl
theorem planLimits_c3 : (Rows.planLimitsRow.unfollowed == Tryz.pinned.checked.prog.unfollowed 4) = true := by kernel_rfl
theorem planLimits_c4 : (Rows.planLimitsRow.recurses == Tryz.pinned.checked.prog.recurses 4) = true := by kernel_rfl
theorem planLimits_c5 : (Rows.planLimitsRow.named == Tryz.pinned.checked.prog.varsNamed 4) = true := by kernel_rfl
theorem planLimits_c6 : ((Rows.planLimitsRow.maps == (Tryz.f4.params.toList ++ Rows.planLimitsSpec.plain.varTypes Tryz.pinned.checked.prog).any (Tryz.pinned.checked.prog.mapsRec ·)) && (Rows.planLimitsRow.ifaces == (Tryz.f4.params.toList ++ Rows.planLimitsSpec.plain.varTypes Tryz.pinned.checked.prog).any (Tryz.pinned.checked.prog.ifacesRec ·)) && (Rows.planLimitsRow.mapsOut == Tryz.pinned.checked.prog.mapsAmong Tryz.f4.resultTypes.toList) && (Rows.planLimitsRow.loops == (Tryz.f4.params.toList ++ Rows.planLimitsSpec.plain.varTypes Tryz.pinned.checked.prog).any (Tryz.pinned.checked.prog.loopsFrom ·)) && (Rows.planLimitsRow.wideKeys == (Tryz.f4.params.toList ++ Rows.planLimitsSpec.plain.varTypes Tryz.pinned.checked.prog ++ Tryz.f4.resultTypes.toList).any (Tryz.pinned.checked.prog.wideKeysFrom ·)) && Rows.planLimitsSpec.vars.all (Tryz.pinned.checked.prog.varReadable ·) && Tryz.f4.resultTypes.all (fun t => Tryz.pinned.checked.prog.readableRec t && decide (t < Tryz.pinned.checked.prog.types.size)) && (Rows.planLimitsRow.ifacesOut == Tryz.f4.resultTypes.toList.any (Tryz.pinned.checked.prog.ifacesRec ·)) && (Rows.planLimitsRow.loopsOut == Tryz.f4.resultTypes.toList.any (Tryz.pinned.checked.prog.loopsFrom ·))) = true := by kernel_rfl
theorem planLimits_c7 : ((Rows.planLimitsRow.plainKeys == Tryz.pinned.checked.prog.plainKeys) && Rows.planLimitsRow.shortTexts.isNone && Tryz.pinned.checked.prog.stopsHeard && Tryz.pinned.checked.prog.mayEnter && (Rows.planLimitsRow.lifted == Tryz.pinned.checked.prog.liftsFinal) && (Tryz.pinned.checked.prog.make == some Rows.planLimitsRow.make) && (Rows.planLimitsRow.kinds == (if Rows.planLimitsRow.domain.isEmpty then [] else Tryz.f4.params.toList.map fun t => match Tryz.pinned.checked.prog.underlying t with | some (.int k) => some k | _ => none)) && (Rows.planLimitsRow.pinned == Rows.planLimitsRow.pinnedBy) && (Rows.planLimitsRow.veiled == (Tryz.f4.params.toList ++ Rows.planLimitsSpec.plain.varTypes Tryz.pinned.checked.prog ++ Tryz.f4.resultTypes.toList).any (Tryz.pinned.checked.prog.veiledRec ·)) && Rows.planLimitsRow.veiledFits Tryz.pinned.checked.prog Tryz.f4.params.toList (Tryz.f4.params.toList ++ Rows.planLimitsSpec.plain.varTypes Tryz.pinned.checked.prog ++ Tryz.f4.resultTypes.toList)) = true := by kernel_rfl
theorem planLimits_closed : joinedFacts Tryz.pinned.checked.prog 4 Tryz.f4 Rows.planLimitsSpec Rows.planLimitsRow = true := joinedFacts_of planLimits_c1 planLimits_c2 planLimits_c3 planLimits_c4 planLimits_c5 planLimits_c6 planLimits_c7
theorem planLimits_instance : Tryz.f4.isInstance Tryz.pinned.checked.prog Rows.planLimitsRow.origin Rows.planLimitsRow.targs := of_decide_eq_true (by kernel_rfl)
theorem planLimits_wrapper : Tryz.f4.isWrapper Tryz.pinned.checked.prog Rows.planLimitsRow.wrapper Rows.planLimitsRow.mainSum := by
  unfold Func.isWrapper; first | (rw [if_pos (by decide +kernel)]; kernel_rfl) | (rw [if_neg (by decide +kernel)]; exact ⟨rfl, rfl⟩)

theorem planLimits_said : Rows.PlanLimitsSaid :=
  OpenClaim.holds_of_wide 4 Tryz.f4 rfl rfl rfl rfl rfl rfl rfl ⟨rfl, rfl, rfl, rfl, rfl⟩ rfl rfl rfl rfl rfl planLimits_named Tryz.func4 planLimits_closed planLimits_instance planLimits_wrapper
    (fun os started H enc _ => planLimits_lifted os started H enc)

end Go.Proofs.YtfcknednlkfmpaaGreatDoor
