/- The row of the law DocLimits holds. Conditions: none. -/
import Derived.Test.YtbabneakocnnoaaGreatDoorRows
import Derived.Test.YtbabneakocnnoaaGreatDoorDocLimitsLift
set_option maxRecDepth 100000
namespace Go.Proofs.YtbabneakocnnoaaGreatDoor
open Go.Bvm

theorem docLimits_named : Tryz.pinned.checked.prog.funcNamed Rows.docLimitsRow.func = some 4 := by kernel_rfl
theorem docLimits_c1 : (Rows.docLimitsRow.wf (OpenSpec.ofChange Rows.docLimitsSpec) && laidOutB Tryz.pinned.checked.prog && mapsRowed Tryz.pinned.checked.prog && Tryz.f4.params.all (Tryz.pinned.checked.prog.readableRec ·) && namedTie Tryz.pinned.checked.prog Rows.docLimitsRow.named Rows.docLimitsSpec.vars && (Rows.docLimitsRow.stops == []) && (Tryz.pinned.checked.prog.stops == []) && (Rows.docLimitsRow.knobs == []) && (Tryz.pinned.checked.prog.stopKnobs == [])) = true := by kernel_rfl
theorem docLimits_c2 : (Rows.docLimitsRow.inPlace == Tryz.pinned.checked.prog.inPlace 4) = true := by kernel_rfl
theorem docLimits_c3 : (Rows.docLimitsRow.unfollowed == Tryz.pinned.checked.prog.unfollowed 4) = true := by kernel_rfl
theorem docLimits_c4 : (Rows.docLimitsRow.recurses == Tryz.pinned.checked.prog.recurses 4) = true := by kernel_rfl
theorem docLimits_c5 : (Rows.docLimitsRow.named == Tryz.pinned.checked.prog.varsNamed 4) = true := by kernel_rfl
theorem docLimits_c6 : ((Rows.docLimitsRow.maps == (Tryz.f4.params.toList ++ Rows.docLimitsSpec.plain.varTypes Tryz.pinned.checked.prog).any (Tryz.pinned.checked.prog.mapsRec ·)) && (Rows.docLimitsRow.ifaces == (Tryz.f4.params.toList ++ Rows.docLimitsSpec.plain.varTypes Tryz.pinned.checked.prog).any (Tryz.pinned.checked.prog.ifacesRec ·)) && (Rows.docLimitsRow.mapsOut == Tryz.pinned.checked.prog.mapsAmong Tryz.f4.resultTypes.toList) && (Rows.docLimitsRow.loops == (Tryz.f4.params.toList ++ Rows.docLimitsSpec.plain.varTypes Tryz.pinned.checked.prog).any (Tryz.pinned.checked.prog.loopsFrom ·)) && (Rows.docLimitsRow.wideKeys == (Tryz.f4.params.toList ++ Rows.docLimitsSpec.plain.varTypes Tryz.pinned.checked.prog ++ Tryz.f4.resultTypes.toList).any (Tryz.pinned.checked.prog.wideKeysFrom ·)) && Rows.docLimitsSpec.vars.all (Tryz.pinned.checked.prog.varReadable ·) && Tryz.f4.resultTypes.all (fun t => Tryz.pinned.checked.prog.readableRec t && decide (t < Tryz.pinned.checked.prog.types.size)) && (Rows.docLimitsRow.ifacesOut == Tryz.f4.resultTypes.toList.any (Tryz.pinned.checked.prog.ifacesRec ·)) && (Rows.docLimitsRow.loopsOut == Tryz.f4.resultTypes.toList.any (Tryz.pinned.checked.prog.loopsFrom ·))) = true := by kernel_rfl
theorem docLimits_c7 : ((Rows.docLimitsRow.plainKeys == Tryz.pinned.checked.prog.plainKeys) && Rows.docLimitsRow.shortTexts.isNone && Tryz.pinned.checked.prog.stopsHeard && Tryz.pinned.checked.prog.mayEnter && (Rows.docLimitsRow.lifted == Tryz.pinned.checked.prog.liftsFinal) && (Tryz.pinned.checked.prog.make == some Rows.docLimitsRow.make) && (Rows.docLimitsRow.kinds == (if Rows.docLimitsRow.domain.isEmpty then [] else Tryz.f4.params.toList.map fun t => match Tryz.pinned.checked.prog.underlying t with | some (.int k) => some k | _ => none)) && (Rows.docLimitsRow.pinned == Rows.docLimitsRow.pinnedBy) && (Rows.docLimitsRow.veiled == (Tryz.f4.params.toList ++ Rows.docLimitsSpec.plain.varTypes Tryz.pinned.checked.prog ++ Tryz.f4.resultTypes.toList).any (Tryz.pinned.checked.prog.veiledRec ·)) && Rows.docLimitsRow.veiledFits Tryz.pinned.checked.prog Tryz.f4.params.toList (Tryz.f4.params.toList ++ Rows.docLimitsSpec.plain.varTypes Tryz.pinned.checked.prog ++ Tryz.f4.resultTypes.toList)) = true := by kernel_rfl
theorem docLimits_closed : joinedFacts Tryz.pinned.checked.prog 4 Tryz.f4 Rows.docLimitsSpec Rows.docLimitsRow = true := joinedFacts_of docLimits_c1 docLimits_c2 docLimits_c3 docLimits_c4 docLimits_c5 docLimits_c6 docLimits_c7
theorem docLimits_instance : Tryz.f4.isInstance Tryz.pinned.checked.prog Rows.docLimitsRow.origin Rows.docLimitsRow.targs := of_decide_eq_true (by kernel_rfl)
theorem docLimits_wrapper : Tryz.f4.isWrapper Tryz.pinned.checked.prog Rows.docLimitsRow.wrapper Rows.docLimitsRow.mainSum := by
  unfold Func.isWrapper; first | (rw [if_pos (by decide +kernel)]; kernel_rfl) | (rw [if_neg (by decide +kernel)]; exact ⟨rfl, rfl⟩)

theorem docLimits_said : Rows.DocLimitsSaid :=
  OpenClaim.holds_of_wide 4 Tryz.f4 rfl rfl rfl rfl rfl rfl rfl ⟨rfl, rfl, rfl, rfl, rfl⟩ rfl rfl rfl rfl rfl docLimits_named Tryz.func4 docLimits_closed docLimits_instance docLimits_wrapper
    (fun os started H enc _ => docLimits_lifted os started H enc)

end Go.Proofs.YtbabneakocnnoaaGreatDoor
