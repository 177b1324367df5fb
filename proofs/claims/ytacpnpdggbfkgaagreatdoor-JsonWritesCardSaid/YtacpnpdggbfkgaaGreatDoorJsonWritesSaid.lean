/- The row of the law JsonWrites holds. Conditions: none. -/
import Derived.Test.YtacpnpdggbfkgaaGreatDoorRows
import Derived.Test.YtacpnpdggbfkgaaGreatDoorJsonWritesLift
set_option maxRecDepth 100000
namespace Go.Proofs.YtacpnpdggbfkgaaGreatDoor
open Go.Bvm

theorem jsonWrites_named : Tryz.pinned.checked.prog.funcNamed Rows.jsonWritesRow.func = some 3 := by kernel_rfl
theorem jsonWrites_c1 : (Rows.jsonWritesRow.wf (OpenSpec.ofChange Rows.jsonWritesSpec) && laidOutB Tryz.pinned.checked.prog && mapsRowed Tryz.pinned.checked.prog && Tryz.f3.params.all (Tryz.pinned.checked.prog.readableRec ·) && namedTie Tryz.pinned.checked.prog Rows.jsonWritesRow.named Rows.jsonWritesSpec.vars && (Rows.jsonWritesRow.stops == []) && (Tryz.pinned.checked.prog.stops == []) && (Rows.jsonWritesRow.knobs == []) && (Tryz.pinned.checked.prog.stopKnobs == [])) = true := by kernel_rfl
theorem jsonWrites_c2 : (Rows.jsonWritesRow.inPlace == Tryz.pinned.checked.prog.inPlace 3) = true := by kernel_rfl
theorem jsonWrites_c3 : (Rows.jsonWritesRow.unfollowed == Tryz.pinned.checked.prog.unfollowed 3) = true := by kernel_rfl
theorem jsonWrites_c4 : (Rows.jsonWritesRow.recurses == Tryz.pinned.checked.prog.recurses 3) = true := by kernel_rfl
theorem jsonWrites_c5 : (Rows.jsonWritesRow.named == Tryz.pinned.checked.prog.varsNamed 3) = true := by kernel_rfl
theorem jsonWrites_c6 : ((Rows.jsonWritesRow.maps == (Tryz.f3.params.toList ++ Rows.jsonWritesSpec.plain.varTypes Tryz.pinned.checked.prog).any (Tryz.pinned.checked.prog.mapsRec ·)) && (Rows.jsonWritesRow.ifaces == (Tryz.f3.params.toList ++ Rows.jsonWritesSpec.plain.varTypes Tryz.pinned.checked.prog).any (Tryz.pinned.checked.prog.ifacesRec ·)) && (Rows.jsonWritesRow.mapsOut == Tryz.pinned.checked.prog.mapsAmong Tryz.f3.resultTypes.toList) && (Rows.jsonWritesRow.loops == (Tryz.f3.params.toList ++ Rows.jsonWritesSpec.plain.varTypes Tryz.pinned.checked.prog).any (Tryz.pinned.checked.prog.loopsFrom ·)) && (Rows.jsonWritesRow.wideKeys == (Tryz.f3.params.toList ++ Rows.jsonWritesSpec.plain.varTypes Tryz.pinned.checked.prog ++ Tryz.f3.resultTypes.toList).any (Tryz.pinned.checked.prog.wideKeysFrom ·)) && Rows.jsonWritesSpec.vars.all (Tryz.pinned.checked.prog.varReadable ·) && Tryz.f3.resultTypes.all (fun t => Tryz.pinned.checked.prog.readableRec t && decide (t < Tryz.pinned.checked.prog.types.size)) && (Rows.jsonWritesRow.ifacesOut == Tryz.f3.resultTypes.toList.any (Tryz.pinned.checked.prog.ifacesRec ·)) && (Rows.jsonWritesRow.loopsOut == Tryz.f3.resultTypes.toList.any (Tryz.pinned.checked.prog.loopsFrom ·))) = true := by kernel_rfl
theorem jsonWrites_c7 : ((Rows.jsonWritesRow.plainKeys == Tryz.pinned.checked.prog.plainKeys) && Rows.jsonWritesRow.shortTexts.isNone && Tryz.pinned.checked.prog.stopsHeard && Tryz.pinned.checked.prog.mayEnter && (Rows.jsonWritesRow.lifted == Tryz.pinned.checked.prog.liftsFinal) && (Tryz.pinned.checked.prog.make == some Rows.jsonWritesRow.make) && (Rows.jsonWritesRow.kinds == (if Rows.jsonWritesRow.domain.isEmpty then [] else Tryz.f3.params.toList.map fun t => match Tryz.pinned.checked.prog.underlying t with | some (.int k) => some k | _ => none)) && (Rows.jsonWritesRow.pinned == Rows.jsonWritesRow.pinnedBy) && (Rows.jsonWritesRow.veiled == (Tryz.f3.params.toList ++ Rows.jsonWritesSpec.plain.varTypes Tryz.pinned.checked.prog ++ Tryz.f3.resultTypes.toList).any (Tryz.pinned.checked.prog.veiledRec ·)) && Rows.jsonWritesRow.veiledFits Tryz.pinned.checked.prog Tryz.f3.params.toList (Tryz.f3.params.toList ++ Rows.jsonWritesSpec.plain.varTypes Tryz.pinned.checked.prog ++ Tryz.f3.resultTypes.toList)) = true := by kernel_rfl
theorem jsonWrites_closed : joinedFacts Tryz.pinned.checked.prog 3 Tryz.f3 Rows.jsonWritesSpec Rows.jsonWritesRow = true := joinedFacts_of jsonWrites_c1 jsonWrites_c2 jsonWrites_c3 jsonWrites_c4 jsonWrites_c5 jsonWrites_c6 jsonWrites_c7
theorem jsonWrites_instance : Tryz.f3.isInstance Tryz.pinned.checked.prog Rows.jsonWritesRow.origin Rows.jsonWritesRow.targs := of_decide_eq_true (by kernel_rfl)
theorem jsonWrites_wrapper : Tryz.f3.isWrapper Tryz.pinned.checked.prog Rows.jsonWritesRow.wrapper Rows.jsonWritesRow.mainSum := by
  unfold Func.isWrapper; first | (rw [if_pos (by decide +kernel)]; kernel_rfl) | (rw [if_neg (by decide +kernel)]; exact ⟨rfl, rfl⟩)

theorem jsonWrites_said : Rows.JsonWritesSaid :=
  OpenClaim.holds_of_wide 3 Tryz.f3 rfl rfl rfl rfl rfl rfl rfl ⟨rfl, rfl, rfl, rfl, rfl⟩ rfl rfl rfl rfl rfl jsonWrites_named Tryz.func3 jsonWrites_closed jsonWrites_instance jsonWrites_wrapper
    (fun os started H enc _ => jsonWrites_lifted os started H enc)

end Go.Proofs.YtacpnpdggbfkgaaGreatDoor
