/- The row of the law JsonDeep holds. Conditions: none. -/
import Derived.Test.YtacpnpdggbfkgaaDoorRows
import Derived.Test.YtacpnpdggbfkgaaDoorJsonDeepLift
set_option maxRecDepth 100000
namespace Go.Proofs.YtacpnpdggbfkgaaDoor
open Go.Bvm

theorem jsonDeep_named : Tryd.pinned.checked.prog.funcNamed Rows.jsonDeepRow.func = some 6 := by kernel_rfl
theorem jsonDeep_c1 : (Rows.jsonDeepRow.wf (OpenSpec.ofChange Rows.jsonDeepSpec) && laidOutB Tryd.pinned.checked.prog && mapsRowed Tryd.pinned.checked.prog && Tryd.f6.params.all (Tryd.pinned.checked.prog.readableRec ·) && namedTie Tryd.pinned.checked.prog Rows.jsonDeepRow.named Rows.jsonDeepSpec.vars && (Rows.jsonDeepRow.stops == []) && (Tryd.pinned.checked.prog.stops == []) && (Rows.jsonDeepRow.knobs == []) && (Tryd.pinned.checked.prog.stopKnobs == [])) = true := by kernel_rfl
theorem jsonDeep_c2 : (Rows.jsonDeepRow.inPlace == Tryd.pinned.checked.prog.inPlace 6) = true := by kernel_rfl
theorem jsonDeep_c3 : (Rows.jsonDeepRow.unfollowed == Tryd.pinned.checked.prog.unfollowed 6) = true := by kernel_rfl
theorem jsonDeep_c4 : (Rows.jsonDeepRow.recurses == Tryd.pinned.checked.prog.recurses 6) = true := by kernel_rfl
theorem jsonDeep_c5 : (Rows.jsonDeepRow.named == Tryd.pinned.checked.prog.varsNamed 6) = true := by kernel_rfl
theorem jsonDeep_c6 : ((Rows.jsonDeepRow.maps == (Tryd.f6.params.toList ++ Rows.jsonDeepSpec.plain.varTypes Tryd.pinned.checked.prog).any (Tryd.pinned.checked.prog.mapsRec ·)) && (Rows.jsonDeepRow.ifaces == (Tryd.f6.params.toList ++ Rows.jsonDeepSpec.plain.varTypes Tryd.pinned.checked.prog).any (Tryd.pinned.checked.prog.ifacesRec ·)) && (Rows.jsonDeepRow.mapsOut == Tryd.pinned.checked.prog.mapsAmong Tryd.f6.resultTypes.toList) && (Rows.jsonDeepRow.loops == (Tryd.f6.params.toList ++ Rows.jsonDeepSpec.plain.varTypes Tryd.pinned.checked.prog).any (Tryd.pinned.checked.prog.loopsFrom ·)) && (Rows.jsonDeepRow.wideKeys == (Tryd.f6.params.toList ++ Rows.jsonDeepSpec.plain.varTypes Tryd.pinned.checked.prog ++ Tryd.f6.resultTypes.toList).any (Tryd.pinned.checked.prog.wideKeysFrom ·)) && Rows.jsonDeepSpec.vars.all (Tryd.pinned.checked.prog.varReadable ·) && Tryd.f6.resultTypes.all (fun t => Tryd.pinned.checked.prog.readableRec t && decide (t < Tryd.pinned.checked.prog.types.size)) && (Rows.jsonDeepRow.ifacesOut == Tryd.f6.resultTypes.toList.any (Tryd.pinned.checked.prog.ifacesRec ·)) && (Rows.jsonDeepRow.loopsOut == Tryd.f6.resultTypes.toList.any (Tryd.pinned.checked.prog.loopsFrom ·))) = true := by kernel_rfl
theorem jsonDeep_c7 : ((Rows.jsonDeepRow.plainKeys == Tryd.pinned.checked.prog.plainKeys) && Rows.jsonDeepRow.shortTexts.isNone && Tryd.pinned.checked.prog.stopsHeard && Tryd.pinned.checked.prog.mayEnter && (Rows.jsonDeepRow.lifted == Tryd.pinned.checked.prog.liftsFinal) && (Tryd.pinned.checked.prog.make == some Rows.jsonDeepRow.make) && (Rows.jsonDeepRow.kinds == (if Rows.jsonDeepRow.domain.isEmpty then [] else Tryd.f6.params.toList.map fun t => match Tryd.pinned.checked.prog.underlying t with | some (.int k) => some k | _ => none)) && (Rows.jsonDeepRow.pinned == Rows.jsonDeepRow.pinnedBy) && (Rows.jsonDeepRow.veiled == (Tryd.f6.params.toList ++ Rows.jsonDeepSpec.plain.varTypes Tryd.pinned.checked.prog ++ Tryd.f6.resultTypes.toList).any (Tryd.pinned.checked.prog.veiledRec ·)) && Rows.jsonDeepRow.veiledFits Tryd.pinned.checked.prog Tryd.f6.params.toList (Tryd.f6.params.toList ++ Rows.jsonDeepSpec.plain.varTypes Tryd.pinned.checked.prog ++ Tryd.f6.resultTypes.toList)) = true := by kernel_rfl
theorem jsonDeep_closed : joinedFacts Tryd.pinned.checked.prog 6 Tryd.f6 Rows.jsonDeepSpec Rows.jsonDeepRow = true := joinedFacts_of jsonDeep_c1 jsonDeep_c2 jsonDeep_c3 jsonDeep_c4 jsonDeep_c5 jsonDeep_c6 jsonDeep_c7
theorem jsonDeep_instance : Tryd.f6.isInstance Tryd.pinned.checked.prog Rows.jsonDeepRow.origin Rows.jsonDeepRow.targs := of_decide_eq_true (by kernel_rfl)
theorem jsonDeep_wrapper : Tryd.f6.isWrapper Tryd.pinned.checked.prog Rows.jsonDeepRow.wrapper Rows.jsonDeepRow.mainSum := by
  unfold Func.isWrapper; first | (rw [if_pos (by decide +kernel)]; kernel_rfl) | (rw [if_neg (by decide +kernel)]; exact ⟨rfl, rfl⟩)

theorem jsonDeep_said : Rows.JsonDeepSaid :=
  OpenClaim.holds_of_wide 6 Tryd.f6 rfl rfl rfl rfl rfl rfl rfl ⟨rfl, rfl, rfl, rfl, rfl⟩ rfl rfl rfl rfl rfl jsonDeep_named Tryd.func6 jsonDeep_closed jsonDeep_instance jsonDeep_wrapper
    (fun os started H enc _ => jsonDeep_lifted os started H enc)

end Go.Proofs.YtacpnpdggbfkgaaDoor
