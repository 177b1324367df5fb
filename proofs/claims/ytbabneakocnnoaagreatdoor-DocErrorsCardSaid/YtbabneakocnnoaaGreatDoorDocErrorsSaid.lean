/- The row of the law DocErrors holds. Conditions: none. -/
import Derived.Test.YtbabneakocnnoaaGreatDoorRows
import Derived.Test.YtbabneakocnnoaaGreatDoorDocErrorsLift
set_option maxRecDepth 100000
namespace Go.Proofs.YtbabneakocnnoaaGreatDoor
open Go.Bvm

theorem docErrors_named : Tryz.pinned.checked.prog.funcNamed Rows.docErrorsRow.func = some 3 := by kernel_rfl
theorem docErrors_c1 : (Rows.docErrorsRow.wf (OpenSpec.ofChange Rows.docErrorsSpec) && laidOutB Tryz.pinned.checked.prog && mapsRowed Tryz.pinned.checked.prog && Tryz.f3.params.all (Tryz.pinned.checked.prog.readableRec ·) && namedTie Tryz.pinned.checked.prog Rows.docErrorsRow.named Rows.docErrorsSpec.vars && (Rows.docErrorsRow.stops == []) && (Tryz.pinned.checked.prog.stops == []) && (Rows.docErrorsRow.knobs == []) && (Tryz.pinned.checked.prog.stopKnobs == [])) = true := by kernel_rfl
theorem docErrors_c2 : (Rows.docErrorsRow.inPlace == Tryz.pinned.checked.prog.inPlace 3) = true := by kernel_rfl
theorem docErrors_c3 : (Rows.docErrorsRow.unfollowed == Tryz.pinned.checked.prog.unfollowed 3) = true := by kernel_rfl
theorem docErrors_c4 : (Rows.docErrorsRow.recurses == Tryz.pinned.checked.prog.recurses 3) = true := by kernel_rfl
theorem docErrors_c5 : (Rows.docErrorsRow.named == Tryz.pinned.checked.prog.varsNamed 3) = true := by kernel_rfl
theorem docErrors_c6 : ((Rows.docErrorsRow.maps == (Tryz.f3.params.toList ++ Rows.docErrorsSpec.plain.varTypes Tryz.pinned.checked.prog).any (Tryz.pinned.checked.prog.mapsRec ·)) && (Rows.docErrorsRow.ifaces == (Tryz.f3.params.toList ++ Rows.docErrorsSpec.plain.varTypes Tryz.pinned.checked.prog).any (Tryz.pinned.checked.prog.ifacesRec ·)) && (Rows.docErrorsRow.mapsOut == Tryz.pinned.checked.prog.mapsAmong Tryz.f3.resultTypes.toList) && (Rows.docErrorsRow.loops == (Tryz.f3.params.toList ++ Rows.docErrorsSpec.plain.varTypes Tryz.pinned.checked.prog).any (Tryz.pinned.checked.prog.loopsFrom ·)) && (Rows.docErrorsRow.wideKeys == (Tryz.f3.params.toList ++ Rows.docErrorsSpec.plain.varTypes Tryz.pinned.checked.prog ++ Tryz.f3.resultTypes.toList).any (Tryz.pinned.checked.prog.wideKeysFrom ·)) && Rows.docErrorsSpec.vars.all (Tryz.pinned.checked.prog.varReadable ·) && Tryz.f3.resultTypes.all (fun t => Tryz.pinned.checked.prog.readableRec t && decide (t < Tryz.pinned.checked.prog.types.size)) && (Rows.docErrorsRow.ifacesOut == Tryz.f3.resultTypes.toList.any (Tryz.pinned.checked.prog.ifacesRec ·)) && (Rows.docErrorsRow.loopsOut == Tryz.f3.resultTypes.toList.any (Tryz.pinned.checked.prog.loopsFrom ·))) = true := by kernel_rfl
theorem docErrors_c7 : ((Rows.docErrorsRow.plainKeys == Tryz.pinned.checked.prog.plainKeys) && Rows.docErrorsRow.shortTexts.isNone && Tryz.pinned.checked.prog.stopsHeard && Tryz.pinned.checked.prog.mayEnter && (Rows.docErrorsRow.lifted == Tryz.pinned.checked.prog.liftsFinal) && (Tryz.pinned.checked.prog.make == some Rows.docErrorsRow.make) && (Rows.docErrorsRow.kinds == (if Rows.docErrorsRow.domain.isEmpty then [] else Tryz.f3.params.toList.map fun t => match Tryz.pinned.checked.prog.underlying t with | some (.int k) => some k | _ => none)) && (Rows.docErrorsRow.pinned == Rows.docErrorsRow.pinnedBy) && (Rows.docErrorsRow.veiled == (Tryz.f3.params.toList ++ Rows.docErrorsSpec.plain.varTypes Tryz.pinned.checked.prog ++ Tryz.f3.resultTypes.toList).any (Tryz.pinned.checked.prog.veiledRec ·)) && Rows.docErrorsRow.veiledFits Tryz.pinned.checked.prog Tryz.f3.params.toList (Tryz.f3.params.toList ++ Rows.docErrorsSpec.plain.varTypes Tryz.pinned.checked.prog ++ Tryz.f3.resultTypes.toList)) = true := by kernel_rfl
theorem docErrors_closed : joinedFacts Tryz.pinned.checked.prog 3 Tryz.f3 Rows.docErrorsSpec Rows.docErrorsRow = true := joinedFacts_of docErrors_c1 docErrors_c2 docErrors_c3 docErrors_c4 docErrors_c5 docErrors_c6 docErrors_c7
theorem docErrors_instance : Tryz.f3.isInstance Tryz.pinned.checked.prog Rows.docErrorsRow.origin Rows.docErrorsRow.targs := of_decide_eq_true (by kernel_rfl)
theorem docErrors_wrapper : Tryz.f3.isWrapper Tryz.pinned.checked.prog Rows.docErrorsRow.wrapper Rows.docErrorsRow.mainSum := by
  unfold Func.isWrapper; first | (rw [if_pos (by decide +kernel)]; kernel_rfl) | (rw [if_neg (by decide +kernel)]; exact ⟨rfl, rfl⟩)

theorem docErrors_said : Rows.DocErrorsSaid :=
  OpenClaim.holds_of_wide 3 Tryz.f3 rfl rfl rfl rfl rfl rfl rfl ⟨rfl, rfl, rfl, rfl, rfl⟩ rfl rfl rfl rfl rfl docErrors_named Tryz.func3 docErrors_closed docErrors_instance docErrors_wrapper
    (fun os started H enc _ => docErrors_lifted os started H enc)

end Go.Proofs.YtbabneakocnnoaaGreatDoor
