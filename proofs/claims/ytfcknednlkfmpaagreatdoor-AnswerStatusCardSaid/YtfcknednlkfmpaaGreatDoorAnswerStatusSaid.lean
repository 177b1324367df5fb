/- The row of the law AnswerStatus holds. Conditions: none. -/
import Derived.Test.YtfcknednlkfmpaaGreatDoorRows
import Derived.Test.YtfcknednlkfmpaaGreatDoorAnswerStatusLift
set_option maxRecDepth 100000
namespace Go.Proofs.YtfcknednlkfmpaaGreatDoor
open Go.Bvm

theorem answerStatus_named : Tryz.pinned.checked.prog.funcNamed Rows.answerStatusRow.func = some 6 := by kernel_rfl
theorem answerStatus_c1 : (Rows.answerStatusRow.wf (OpenSpec.ofChange Rows.answerStatusSpec) && laidOutB Tryz.pinned.checked.prog && mapsRowed Tryz.pinned.checked.prog && Tryz.f6.params.all (Tryz.pinned.checked.prog.readableRec ·) && namedTie Tryz.pinned.checked.prog Rows.answerStatusRow.named Rows.answerStatusSpec.vars && (Rows.answerStatusRow.stops == []) && (Tryz.pinned.checked.prog.stops == []) && (Rows.answerStatusRow.knobs == []) && (Tryz.pinned.checked.prog.stopKnobs == [])) = true := by kernel_rfl
theorem answerStatus_c2 : (Rows.answerStatusRow.inPlace == Tryz.pinned.checked.prog.inPlace 6) = true := by kernel_rfl
theorem answerStatus_c3 : (Rows.answerStatusRow.unfollowed == Tryz.pinned.checked.prog.unfollowed 6) = true := by kernel_rfl
theorem answerStatus_c4 : (Rows.answerStatusRow.recurses == Tryz.pinned.checked.prog.recurses 6) = true := by kernel_rfl
theorem answerStatus_c5 : (Rows.answerStatusRow.named == Tryz.pinned.checked.prog.varsNamed 6) = true := by kernel_rfl
theorem answerStatus_c6 : ((Rows.answerStatusRow.maps == (Tryz.f6.params.toList ++ Rows.answerStatusSpec.plain.varTypes Tryz.pinned.checked.prog).any (Tryz.pinned.checked.prog.mapsRec ·)) && (Rows.answerStatusRow.ifaces == (Tryz.f6.params.toList ++ Rows.answerStatusSpec.plain.varTypes Tryz.pinned.checked.prog).any (Tryz.pinned.checked.prog.ifacesRec ·)) && (Rows.answerStatusRow.mapsOut == Tryz.pinned.checked.prog.mapsAmong Tryz.f6.resultTypes.toList) && (Rows.answerStatusRow.loops == (Tryz.f6.params.toList ++ Rows.answerStatusSpec.plain.varTypes Tryz.pinned.checked.prog).any (Tryz.pinned.checked.prog.loopsFrom ·)) && (Rows.answerStatusRow.wideKeys == (Tryz.f6.params.toList ++ Rows.answerStatusSpec.plain.varTypes Tryz.pinned.checked.prog ++ Tryz.f6.resultTypes.toList).any (Tryz.pinned.checked.prog.wideKeysFrom ·)) && Rows.answerStatusSpec.vars.all (Tryz.pinned.checked.prog.varReadable ·) && Tryz.f6.resultTypes.all (fun t => Tryz.pinned.checked.prog.readableRec t && decide (t < Tryz.pinned.checked.prog.types.size)) && (Rows.answerStatusRow.ifacesOut == Tryz.f6.resultTypes.toList.any (Tryz.pinned.checked.prog.ifacesRec ·)) && (Rows.answerStatusRow.loopsOut == Tryz.f6.resultTypes.toList.any (Tryz.pinned.checked.prog.loopsFrom ·))) = true := by kernel_rfl
theorem answerStatus_c7 : ((Rows.answerStatusRow.plainKeys == Tryz.pinned.checked.prog.plainKeys) && Rows.answerStatusRow.shortTexts.isNone && Tryz.pinned.checked.prog.stopsHeard && Tryz.pinned.checked.prog.mayEnter && (Rows.answerStatusRow.lifted == Tryz.pinned.checked.prog.liftsFinal) && (Tryz.pinned.checked.prog.make == some Rows.answerStatusRow.make) && (Rows.answerStatusRow.kinds == (if Rows.answerStatusRow.domain.isEmpty then [] else Tryz.f6.params.toList.map fun t => match Tryz.pinned.checked.prog.underlying t with | some (.int k) => some k | _ => none)) && (Rows.answerStatusRow.pinned == Rows.answerStatusRow.pinnedBy) && (Rows.answerStatusRow.veiled == (Tryz.f6.params.toList ++ Rows.answerStatusSpec.plain.varTypes Tryz.pinned.checked.prog ++ Tryz.f6.resultTypes.toList).any (Tryz.pinned.checked.prog.veiledRec ·)) && Rows.answerStatusRow.veiledFits Tryz.pinned.checked.prog Tryz.f6.params.toList (Tryz.f6.params.toList ++ Rows.answerStatusSpec.plain.varTypes Tryz.pinned.checked.prog ++ Tryz.f6.resultTypes.toList)) = true := by kernel_rfl
theorem answerStatus_closed : joinedFacts Tryz.pinned.checked.prog 6 Tryz.f6 Rows.answerStatusSpec Rows.answerStatusRow = true := joinedFacts_of answerStatus_c1 answerStatus_c2 answerStatus_c3 answerStatus_c4 answerStatus_c5 answerStatus_c6 answerStatus_c7
theorem answerStatus_instance : Tryz.f6.isInstance Tryz.pinned.checked.prog Rows.answerStatusRow.origin Rows.answerStatusRow.targs := of_decide_eq_true (by kernel_rfl)
theorem answerStatus_wrapper : Tryz.f6.isWrapper Tryz.pinned.checked.prog Rows.answerStatusRow.wrapper Rows.answerStatusRow.mainSum := by
  unfold Func.isWrapper; first | (rw [if_pos (by decide +kernel)]; kernel_rfl) | (rw [if_neg (by decide +kernel)]; exact ⟨rfl, rfl⟩)

theorem answerStatus_said : Rows.AnswerStatusSaid :=
  OpenClaim.holds_of_wide 6 Tryz.f6 rfl rfl rfl rfl rfl rfl rfl ⟨rfl, rfl, rfl, rfl, rfl⟩ rfl rfl rfl rfl rfl answerStatus_named Tryz.func6 answerStatus_closed answerStatus_instance answerStatus_wrapper
    (fun os started H enc _ => answerStatus_lifted os started H enc)

end Go.Proofs.YtfcknednlkfmpaaGreatDoor
