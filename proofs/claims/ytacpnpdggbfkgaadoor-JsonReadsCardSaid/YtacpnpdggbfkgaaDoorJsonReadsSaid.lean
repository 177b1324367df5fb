/- The row of the law JsonReads holds. Conditions: none. -/
import Derived.Test.YtacpnpdggbfkgaaDoorRows
import Derived.Test.YtacpnpdggbfkgaaDoorJsonReadsLift
set_option maxRecDepth 100000
namespace Go.Proofs.YtacpnpdggbfkgaaDoor
open Go.Bvm

theorem jsonReads_named : Tryd.pinned.checked.prog.funcNamed Rows.jsonReadsRow.func = some 3 := by kernel_rfl
theorem jsonReads_c1 : (Rows.jsonReadsRow.wf (OpenSpec.ofChange Rows.jsonReadsSpec) && laidOutB Tryd.pinned.checked.prog && mapsRowed Tryd.pinned.checked.prog && Tryd.f3.params.all (Tryd.pinned.checked.prog.readableRec ·) && namedTie Tryd.pinned.checked.prog Rows.jsonReadsRow.named Rows.jsonReadsSpec.vars && (Rows.jsonReadsRow.stops == []) && (Tryd.pinned.checked.prog.stops == []) && (Rows.jsonReadsRow.knobs == []) && (Tryd.pinned.checked.prog.stopKnobs == [])) = true := by kernel_rfl
theorem jsonReads_c2 : (Rows.jsonReadsRow.inPlace == Tryd.pinned.checked.prog.inPlace 3) = true := by kernel_rfl
theorem jsonReads_c3 : (Rows.jsonReadsRow.unfollowed == Tryd.pinned.checked.prog.unfollowed 3) = true := by kernel_rfl
theorem jsonReads_c4 : (Rows.jsonReadsRow.recurses == Tryd.pinned.checked.prog.recurses 3) = true := by kernel_rfl
theorem jsonReads_c5 : (Rows.jsonReadsRow.named == Tryd.pinned.checked.prog.varsNamed 3) = true := by kernel_rfl
theorem jsonReads_c6 : ((Rows.jsonReadsRow.maps == (Tryd.f3.params.toList ++ Rows.jsonReadsSpec.plain.varTypes Tryd.pinned.checked.prog).any (Tryd.pinned.checked.prog.mapsRec ·)) && (Rows.jsonReadsRow.ifaces == (Tryd.f3.params.toList ++ Rows.jsonReadsSpec.plain.varTypes Tryd.pinned.checked.prog).any (Tryd.pinned.checked.prog.ifacesRec ·)) && (Rows.jsonReadsRow.mapsOut == Tryd.pinned.checked.prog.mapsAmong Tryd.f3.resultTypes.toList) && (Rows.jsonReadsRow.loops == (Tryd.f3.params.toList ++ Rows.jsonReadsSpec.plain.varTypes Tryd.pinned.checked.prog).any (Tryd.pinned.checked.prog.loopsFrom ·)) && (Rows.jsonReadsRow.wideKeys == (Tryd.f3.params.toList ++ Rows.jsonReadsSpec.plain.varTypes Tryd.pinned.checked.prog ++ Tryd.f3.resultTypes.toList).any (Tryd.pinned.checked.prog.wideKeysFrom ·)) && Rows.jsonReadsSpec.vars.all (Tryd.pinned.checked.prog.varReadable ·) && Tryd.f3.resultTypes.all (fun t => Tryd.pinned.checked.prog.readableRec t && decide (t < Tryd.pinned.checked.prog.types.size)) && (Rows.jsonReadsRow.ifacesOut == Tryd.f3.resultTypes.toList.any (Tryd.pinned.checked.prog.ifacesRec ·)) && (Rows.jsonReadsRow.loopsOut == Tryd.f3.resultTypes.toList.any (Tryd.pinned.checked.prog.loopsFrom ·))) = true := by kernel_rfl
theorem jsonReads_c7 : ((Rows.jsonReadsRow.plainKeys == Tryd.pinned.checked.prog.plainKeys) && Rows.jsonReadsRow.shortTexts.isNone && Tryd.pinned.checked.prog.stopsHeard && Tryd.pinned.checked.prog.mayEnter && (Rows.jsonReadsRow.lifted == Tryd.pinned.checked.prog.liftsFinal) && (Tryd.pinned.checked.prog.make == some Rows.jsonReadsRow.make) && (Rows.jsonReadsRow.kinds == (if Rows.jsonReadsRow.domain.isEmpty then [] else Tryd.f3.params.toList.map fun t => match Tryd.pinned.checked.prog.underlying t with | some (.int k) => some k | _ => none)) && (Rows.jsonReadsRow.pinned == Rows.jsonReadsRow.pinnedBy) && (Rows.jsonReadsRow.veiled == (Tryd.f3.params.toList ++ Rows.jsonReadsSpec.plain.varTypes Tryd.pinned.checked.prog ++ Tryd.f3.resultTypes.toList).any (Tryd.pinned.checked.prog.veiledRec ·)) && Rows.jsonReadsRow.veiledFits Tryd.pinned.checked.prog Tryd.f3.params.toList (Tryd.f3.params.toList ++ Rows.jsonReadsSpec.plain.varTypes Tryd.pinned.checked.prog ++ Tryd.f3.resultTypes.toList)) = true := by kernel_rfl
theorem jsonReads_closed : joinedFacts Tryd.pinned.checked.prog 3 Tryd.f3 Rows.jsonReadsSpec Rows.jsonReadsRow = true := joinedFacts_of jsonReads_c1 jsonReads_c2 jsonReads_c3 jsonReads_c4 jsonReads_c5 jsonReads_c6 jsonReads_c7
theorem jsonReads_instance : Tryd.f3.isInstance Tryd.pinned.checked.prog Rows.jsonReadsRow.origin Rows.jsonReadsRow.targs := of_decide_eq_true (by kernel_rfl)
theorem jsonReads_wrapper : Tryd.f3.isWrapper Tryd.pinned.checked.prog Rows.jsonReadsRow.wrapper Rows.jsonReadsRow.mainSum := by
  unfold Func.isWrapper; first | (rw [if_pos (by decide +kernel)]; kernel_rfl) | (rw [if_neg (by decide +kernel)]; exact ⟨rfl, rfl⟩)

theorem jsonReads_said : Rows.JsonReadsSaid :=
  OpenClaim.holds_of_wide 3 Tryd.f3 rfl rfl rfl rfl rfl rfl rfl ⟨rfl, rfl, rfl, rfl, rfl⟩ rfl rfl rfl rfl rfl jsonReads_named Tryd.func3 jsonReads_closed jsonReads_instance jsonReads_wrapper
    (fun os started H enc _ => jsonReads_lifted os started H enc)

end Go.Proofs.YtacpnpdggbfkgaaDoor
