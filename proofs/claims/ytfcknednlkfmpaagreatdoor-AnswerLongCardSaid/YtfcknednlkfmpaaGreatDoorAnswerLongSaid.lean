/- The row of the law AnswerLong holds. Conditions: none. -/
import Derived.Test.YtfcknednlkfmpaaGreatDoorRows
import Derived.Test.YtfcknednlkfmpaaGreatDoorAnswerLongLift
set_option maxRecDepth 100000
namespace Go.Proofs.YtfcknednlkfmpaaGreatDoor
open Go.Bvm

theorem answerLong_named : Tryz.pinned.checked.prog.funcNamed Rows.answerLongRow.func = some 5 := by kernel_rfl
theorem answerLong_c1 : (Rows.answerLongRow.wf (OpenSpec.ofChange Rows.answerLongSpec) && laidOutB Tryz.pinned.checked.prog && mapsRowed Tryz.pinned.checked.prog && Tryz.f5.params.all (Tryz.pinned.checked.prog.readableRec ·) && namedTie Tryz.pinned.checked.prog Rows.answerLongRow.named Rows.answerLongSpec.vars && (Rows.answerLongRow.stops == []) && (Tryz.pinned.checked.prog.stops == []) && (Rows.answerLongRow.knobs == []) && (Tryz.pinned.checked.prog.stopKnobs == [])) = true := by kernel_rfl
theorem answerLong_c2 : (Rows.answerLongRow.inPlace == Tryz.pinned.checked.prog.inPlace 5) = true := by kernel_rfl
theorem answerLong_c3 : (Rows.answerLongRow.unfollowed == Tryz.pinned.checked.prog.unfollowed 5) = true := by kernel_rfl
theorem answerLong_c4 : (Rows.answerLongRow.recurses == Tryz.pinned.checked.prog.recurses 5) = true := by kernel_rfl
theorem answerLong_c5 : (Rows.answerLongRow.named == Tryz.pinned.checked.prog.varsNamed 5) = true := by kernel_rfl
theorem answerLong_c6 : ((Rows.answerLongRow.maps == (Tryz.f5.params.toList ++ Rows.answerLongSpec.plain.varTypes Tryz.pinned.checked.prog).any (Tryz.pinned.checked.prog.mapsRec ·)) && (Rows.answerLongRow.ifaces == (Tryz.f5.params.toList ++ Rows.answerLongSpec.plain.varTypes Tryz.pinned.checked.prog).any (Tryz.pinned.checked.prog.ifacesRec ·)) && (Rows.answerLongRow.mapsOut == Tryz.pinned.checked.prog.mapsAmong Tryz.f5.resultTypes.toList) && (Rows.answerLongRow.loops == (Tryz.f5.params.toList ++ Rows.answerLongSpec.plain.varTypes Tryz.pinned.checked.prog).any (Tryz.pinned.checked.prog.loopsFrom ·)) && (Rows.answerLongRow.wideKeys == (Tryz.f5.params.toList ++ Rows.answerLongSpec.plain.varTypes Tryz.pinned.checked.prog ++ Tryz.f5.resultTypes.toList).any (Tryz.pinned.checked.prog.wideKeysFrom ·)) && Rows.answerLongSpec.vars.all (Tryz.pinned.checked.prog.varReadable ·) && Tryz.f5.resultTypes.all (fun t => Tryz.pinned.checked.prog.readableRec t && decide (t < Tryz.pinned.checked.prog.types.size)) && (Rows.answerLongRow.ifacesOut == Tryz.f5.resultTypes.toList.any (Tryz.pinned.checked.prog.ifacesRec ·)) && (Rows.answerLongRow.loopsOut == Tryz.f5.resultTypes.toList.any (Tryz.pinned.checked.prog.loopsFrom ·))) = true := by kernel_rfl
theorem answerLong_c7 : ((Rows.answerLongRow.plainKeys == Tryz.pinned.checked.prog.plainKeys) && Rows.answerLongRow.shortTexts.isNone && Tryz.pinned.checked.prog.stopsHeard && Tryz.pinned.checked.prog.mayEnter && (Rows.answerLongRow.lifted == Tryz.pinned.checked.prog.liftsFinal) && (Tryz.pinned.checked.prog.make == some Rows.answerLongRow.make) && (Rows.answerLongRow.kinds == (if Rows.answerLongRow.domain.isEmpty then [] else Tryz.f5.params.toList.map fun t => match Tryz.pinned.checked.prog.underlying t with | some (.int k) => some k | _ => none)) && (Rows.answerLongRow.pinned == Rows.answerLongRow.pinnedBy) && (Rows.answerLongRow.veiled == (Tryz.f5.params.toList ++ Rows.answerLongSpec.plain.varTypes Tryz.pinned.checked.prog ++ Tryz.f5.resultTypes.toList).any (Tryz.pinned.checked.prog.veiledRec ·)) && Rows.answerLongRow.veiledFits Tryz.pinned.checked.prog Tryz.f5.params.toList (Tryz.f5.params.toList ++ Rows.answerLongSpec.plain.varTypes Tryz.pinned.checked.prog ++ Tryz.f5.resultTypes.toList)) = true := by kernel_rfl
theorem answerLong_closed : joinedFacts Tryz.pinned.checked.prog 5 Tryz.f5 Rows.answerLongSpec Rows.answerLongRow = true := joinedFacts_of answerLong_c1 answerLong_c2 answerLong_c3 answerLong_c4 answerLong_c5 answerLong_c6 answerLong_c7
theorem answerLong_instance : Tryz.f5.isInstance Tryz.pinned.checked.prog Rows.answerLongRow.origin Rows.answerLongRow.targs := of_decide_eq_true (by kernel_rfl)
theorem answerLong_wrapper : Tryz.f5.isWrapper Tryz.pinned.checked.prog Rows.answerLongRow.wrapper Rows.answerLongRow.mainSum := by
  unfold Func.isWrapper; first | (rw [if_pos (by decide +kernel)]; kernel_rfl) | (rw [if_neg (by decide +kernel)]; exact ⟨rfl, rfl⟩)

theorem answerLong_said : Rows.AnswerLongSaid :=
  OpenClaim.holds_of_wide 5 Tryz.f5 rfl rfl rfl rfl rfl rfl rfl ⟨rfl, rfl, rfl, rfl, rfl⟩ rfl rfl rfl rfl rfl answerLong_named Tryz.func5 answerLong_closed answerLong_instance answerLong_wrapper
    (fun os started H enc _ => answerLong_lifted os started H enc)

end Go.Proofs.YtfcknednlkfmpaaGreatDoor
