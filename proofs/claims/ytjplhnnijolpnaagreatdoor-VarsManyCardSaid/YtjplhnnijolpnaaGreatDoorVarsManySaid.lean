/- The row of the law VarsMany holds. Conditions: none. -/
import Derived.Test.YtjplhnnijolpnaaGreatDoorRows
import Derived.Test.YtjplhnnijolpnaaGreatDoorVarsManyLift
set_option maxRecDepth 100000
namespace Go.Proofs.YtjplhnnijolpnaaGreatDoor
open Go.Bvm

theorem varsMany_named : Tryz.pinned.checked.prog.funcNamed Rows.varsManyRow.func = some 7 := by kernel_rfl
theorem varsMany_c1 : (Rows.varsManyRow.wf (OpenSpec.ofChange Rows.varsManySpec) && laidOutB Tryz.pinned.checked.prog && mapsRowed Tryz.pinned.checked.prog && Tryz.f7.params.all (Tryz.pinned.checked.prog.readableRec ·) && namedTie Tryz.pinned.checked.prog Rows.varsManyRow.named Rows.varsManySpec.vars && (Rows.varsManyRow.stops == []) && (Tryz.pinned.checked.prog.stops == []) && (Rows.varsManyRow.knobs == []) && (Tryz.pinned.checked.prog.stopKnobs == [])) = true := by kernel_rfl
theorem varsMany_c2 : (Rows.varsManyRow.inPlace == Tryz.pinned.checked.prog.inPlace 7) = true := by kernel_rfl
theorem varsMany_c3 : (Rows.varsManyRow.unfollowed == Tryz.pinned.checked.prog.unfollowed 7) = true := by kernel_rfl
theorem varsMany_c4 : (Rows.varsManyRow.recurses == Tryz.pinned.checked.prog.recurses 7) = true := by kernel_rfl
theorem varsMany_c5 : (Rows.varsManyRow.named == Tryz.pinned.checked.prog.varsNamed 7) = true := by kernel_rfl
theorem varsMany_c6 : ((Rows.varsManyRow.maps == (Tryz.f7.params.toList ++ Rows.varsManySpec.plain.varTypes Tryz.pinned.checked.prog).any (Tryz.pinned.checked.prog.mapsRec ·)) && (Rows.varsManyRow.ifaces == (Tryz.f7.params.toList ++ Rows.varsManySpec.plain.varTypes Tryz.pinned.checked.prog).any (Tryz.pinned.checked.prog.ifacesRec ·)) && (Rows.varsManyRow.mapsOut == Tryz.pinned.checked.prog.mapsAmong Tryz.f7.resultTypes.toList) && (Rows.varsManyRow.loops == (Tryz.f7.params.toList ++ Rows.varsManySpec.plain.varTypes Tryz.pinned.checked.prog).any (Tryz.pinned.checked.prog.loopsFrom ·)) && (Rows.varsManyRow.wideKeys == (Tryz.f7.params.toList ++ Rows.varsManySpec.plain.varTypes Tryz.pinned.checked.prog ++ Tryz.f7.resultTypes.toList).any (Tryz.pinned.checked.prog.wideKeysFrom ·)) && Rows.varsManySpec.vars.all (Tryz.pinned.checked.prog.varReadable ·) && Tryz.f7.resultTypes.all (fun t => Tryz.pinned.checked.prog.readableRec t && decide (t < Tryz.pinned.checked.prog.types.size)) && (Rows.varsManyRow.ifacesOut == Tryz.f7.resultTypes.toList.any (Tryz.pinned.checked.prog.ifacesRec ·)) && (Rows.varsManyRow.loopsOut == Tryz.f7.resultTypes.toList.any (Tryz.pinned.checked.prog.loopsFrom ·))) = true := by kernel_rfl
theorem varsMany_c7 : ((Rows.varsManyRow.plainKeys == Tryz.pinned.checked.prog.plainKeys) && Rows.varsManyRow.shortTexts.isNone && Tryz.pinned.checked.prog.stopsHeard && Tryz.pinned.checked.prog.mayEnter && (Rows.varsManyRow.lifted == Tryz.pinned.checked.prog.liftsFinal) && (Tryz.pinned.checked.prog.make == some Rows.varsManyRow.make) && (Rows.varsManyRow.kinds == (if Rows.varsManyRow.domain.isEmpty then [] else Tryz.f7.params.toList.map fun t => match Tryz.pinned.checked.prog.underlying t with | some (.int k) => some k | _ => none)) && (Rows.varsManyRow.pinned == Rows.varsManyRow.pinnedBy) && (Rows.varsManyRow.veiled == (Tryz.f7.params.toList ++ Rows.varsManySpec.plain.varTypes Tryz.pinned.checked.prog ++ Tryz.f7.resultTypes.toList).any (Tryz.pinned.checked.prog.veiledRec ·)) && Rows.varsManyRow.veiledFits Tryz.pinned.checked.prog Tryz.f7.params.toList (Tryz.f7.params.toList ++ Rows.varsManySpec.plain.varTypes Tryz.pinned.checked.prog ++ Tryz.f7.resultTypes.toList)) = true := by kernel_rfl
theorem varsMany_closed : joinedFacts Tryz.pinned.checked.prog 7 Tryz.f7 Rows.varsManySpec Rows.varsManyRow = true := joinedFacts_of varsMany_c1 varsMany_c2 varsMany_c3 varsMany_c4 varsMany_c5 varsMany_c6 varsMany_c7
theorem varsMany_instance : Tryz.f7.isInstance Tryz.pinned.checked.prog Rows.varsManyRow.origin Rows.varsManyRow.targs := of_decide_eq_true (by kernel_rfl)
theorem varsMany_wrapper : Tryz.f7.isWrapper Tryz.pinned.checked.prog Rows.varsManyRow.wrapper Rows.varsManyRow.mainSum := by
  unfold Func.isWrapper; first | (rw [if_pos (by decide +kernel)]; kernel_rfl) | (rw [if_neg (by decide +kernel)]; exact ⟨rfl, rfl⟩)

theorem varsMany_said : Rows.VarsManySaid :=
  OpenClaim.holds_of_wide 7 Tryz.f7 rfl rfl rfl rfl rfl rfl rfl ⟨rfl, rfl, rfl, rfl, rfl⟩ rfl rfl rfl rfl rfl varsMany_named Tryz.func7 varsMany_closed varsMany_instance varsMany_wrapper
    (fun os started H enc _ => varsMany_lifted os started H enc)

end Go.Proofs.YtjplhnnijolpnaaGreatDoor
