/- The row of the law VarsTypes holds. Conditions: none. -/
import Derived.Test.YtjplhnnijolpnaaGreatDoorRows
import Derived.Test.YtjplhnnijolpnaaGreatDoorVarsTypesLift
set_option maxRecDepth 100000
namespace Go.Proofs.YtjplhnnijolpnaaGreatDoor
open Go.Bvm

theorem varsTypes_named : Tryz.pinned.checked.prog.funcNamed Rows.varsTypesRow.func = some 6 := by kernel_rfl
theorem varsTypes_c1 : (Rows.varsTypesRow.wf (OpenSpec.ofChange Rows.varsTypesSpec) && laidOutB Tryz.pinned.checked.prog && mapsRowed Tryz.pinned.checked.prog && Tryz.f6.params.all (Tryz.pinned.checked.prog.readableRec ·) && namedTie Tryz.pinned.checked.prog Rows.varsTypesRow.named Rows.varsTypesSpec.vars && (Rows.varsTypesRow.stops == []) && (Tryz.pinned.checked.prog.stops == []) && (Rows.varsTypesRow.knobs == []) && (Tryz.pinned.checked.prog.stopKnobs == [])) = true := by kernel_rfl
theorem varsTypes_c2 : (Rows.varsTypesRow.inPlace == Tryz.pinned.checked.prog.inPlace 6) = true := by kernel_rfl
theorem varsTypes_c3 : (Rows.varsTypesRow.unfollowed == Tryz.pinned.checked.prog.unfollowed 6) = true := by kernel_rfl
theorem varsTypes_c4 : (Rows.varsTypesRow.recurses == Tryz.pinned.checked.prog.recurses 6) = true := by kernel_rfl
theorem varsTypes_c5 : (Rows.varsTypesRow.named == Tryz.pinned.checked.prog.varsNamed 6) = true := by kernel_rfl
theorem varsTypes_c6 : ((Rows.varsTypesRow.maps == (Tryz.f6.params.toList ++ Rows.varsTypesSpec.plain.varTypes Tryz.pinned.checked.prog).any (Tryz.pinned.checked.prog.mapsRec ·)) && (Rows.varsTypesRow.ifaces == (Tryz.f6.params.toList ++ Rows.varsTypesSpec.plain.varTypes Tryz.pinned.checked.prog).any (Tryz.pinned.checked.prog.ifacesRec ·)) && (Rows.varsTypesRow.mapsOut == Tryz.pinned.checked.prog.mapsAmong Tryz.f6.resultTypes.toList) && (Rows.varsTypesRow.loops == (Tryz.f6.params.toList ++ Rows.varsTypesSpec.plain.varTypes Tryz.pinned.checked.prog).any (Tryz.pinned.checked.prog.loopsFrom ·)) && (Rows.varsTypesRow.wideKeys == (Tryz.f6.params.toList ++ Rows.varsTypesSpec.plain.varTypes Tryz.pinned.checked.prog ++ Tryz.f6.resultTypes.toList).any (Tryz.pinned.checked.prog.wideKeysFrom ·)) && Rows.varsTypesSpec.vars.all (Tryz.pinned.checked.prog.varReadable ·) && Tryz.f6.resultTypes.all (fun t => Tryz.pinned.checked.prog.readableRec t && decide (t < Tryz.pinned.checked.prog.types.size)) && (Rows.varsTypesRow.ifacesOut == Tryz.f6.resultTypes.toList.any (Tryz.pinned.checked.prog.ifacesRec ·)) && (Rows.varsTypesRow.loopsOut == Tryz.f6.resultTypes.toList.any (Tryz.pinned.checked.prog.loopsFrom ·))) = true := by kernel_rfl
theorem varsTypes_c7 : ((Rows.varsTypesRow.plainKeys == Tryz.pinned.checked.prog.plainKeys) && Rows.varsTypesRow.shortTexts.isNone && Tryz.pinned.checked.prog.stopsHeard && Tryz.pinned.checked.prog.mayEnter && (Rows.varsTypesRow.lifted == Tryz.pinned.checked.prog.liftsFinal) && (Tryz.pinned.checked.prog.make == some Rows.varsTypesRow.make) && (Rows.varsTypesRow.kinds == (if Rows.varsTypesRow.domain.isEmpty then [] else Tryz.f6.params.toList.map fun t => match Tryz.pinned.checked.prog.underlying t with | some (.int k) => some k | _ => none)) && (Rows.varsTypesRow.pinned == Rows.varsTypesRow.pinnedBy) && (Rows.varsTypesRow.veiled == (Tryz.f6.params.toList ++ Rows.varsTypesSpec.plain.varTypes Tryz.pinned.checked.prog ++ Tryz.f6.resultTypes.toList).any (Tryz.pinned.checked.prog.veiledRec ·)) && Rows.varsTypesRow.veiledFits Tryz.pinned.checked.prog Tryz.f6.params.toList (Tryz.f6.params.toList ++ Rows.varsTypesSpec.plain.varTypes Tryz.pinned.checked.prog ++ Tryz.f6.resultTypes.toList)) = true := by kernel_rfl
theorem varsTypes_closed : joinedFacts Tryz.pinned.checked.prog 6 Tryz.f6 Rows.varsTypesSpec Rows.varsTypesRow = true := joinedFacts_of varsTypes_c1 varsTypes_c2 varsTypes_c3 varsTypes_c4 varsTypes_c5 varsTypes_c6 varsTypes_c7
theorem varsTypes_instance : Tryz.f6.isInstance Tryz.pinned.checked.prog Rows.varsTypesRow.origin Rows.varsTypesRow.targs := of_decide_eq_true (by kernel_rfl)
theorem varsTypes_wrapper : Tryz.f6.isWrapper Tryz.pinned.checked.prog Rows.varsTypesRow.wrapper Rows.varsTypesRow.mainSum := by
  unfold Func.isWrapper; first | (rw [if_pos (by decide +kernel)]; kernel_rfl) | (rw [if_neg (by decide +kernel)]; exact ⟨rfl, rfl⟩)

theorem varsTypes_said : Rows.VarsTypesSaid :=
  OpenClaim.holds_of_wide 6 Tryz.f6 rfl rfl rfl rfl rfl rfl rfl ⟨rfl, rfl, rfl, rfl, rfl⟩ rfl rfl rfl rfl rfl varsTypes_named Tryz.func6 varsTypes_closed varsTypes_instance varsTypes_wrapper
    (fun os started H enc _ => varsTypes_lifted os started H enc)

end Go.Proofs.YtjplhnnijolpnaaGreatDoor
