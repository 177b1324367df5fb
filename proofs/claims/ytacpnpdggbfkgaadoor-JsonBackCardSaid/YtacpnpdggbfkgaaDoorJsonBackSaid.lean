/- The row of the law JsonBack holds. Conditions: none. -/
import Derived.Test.YtacpnpdggbfkgaaDoorRows
import Derived.Test.YtacpnpdggbfkgaaDoorJsonBackLift
set_option maxRecDepth 100000
namespace Go.Proofs.YtacpnpdggbfkgaaDoor
open Go.Bvm

theorem jsonBack_named : Tryd.pinned.checked.prog.funcNamed Rows.jsonBackRow.func = some 4 := by kernel_rfl
theorem jsonBack_c1 : (Rows.jsonBackRow.wf (OpenSpec.ofChange Rows.jsonBackSpec) && laidOutB Tryd.pinned.checked.prog && mapsRowed Tryd.pinned.checked.prog && Tryd.f4.params.all (Tryd.pinned.checked.prog.readableRec ·) && namedTie Tryd.pinned.checked.prog Rows.jsonBackRow.named Rows.jsonBackSpec.vars && (Rows.jsonBackRow.stops == []) && (Tryd.pinned.checked.prog.stops == []) && (Rows.jsonBackRow.knobs == []) && (Tryd.pinned.checked.prog.stopKnobs == [])) = true := by kernel_rfl
theorem jsonBack_c2 : (Rows.jsonBackRow.inPlace == Tryd.pinned.checked.prog.inPlace 4) = true := by kernel_rfl
theorem jsonBack_c3 : (Rows.jsonBackRow.unfollowed == Tryd.pinned.checked.prog.unfollowed 4) = true := by kernel_rfl
theorem jsonBack_c4 : (Rows.jsonBackRow.recurses == Tryd.pinned.checked.prog.recurses 4) = true := by kernel_rfl
theorem jsonBack_c5 : (Rows.jsonBackRow.named == Tryd.pinned.checked.prog.varsNamed 4) = true := by kernel_rfl
theorem jsonBack_c6 : ((Rows.jsonBackRow.maps == (Tryd.f4.params.toList ++ Rows.jsonBackSpec.plain.varTypes Tryd.pinned.checked.prog).any (Tryd.pinned.checked.prog.mapsRec ·)) && (Rows.jsonBackRow.ifaces == (Tryd.f4.params.toList ++ Rows.jsonBackSpec.plain.varTypes Tryd.pinned.checked.prog).any (Tryd.pinned.checked.prog.ifacesRec ·)) && (Rows.jsonBackRow.mapsOut == Tryd.pinned.checked.prog.mapsAmong Tryd.f4.resultTypes.toList) && (Rows.jsonBackRow.loops == (Tryd.f4.params.toList ++ Rows.jsonBackSpec.plain.varTypes Tryd.pinned.checked.prog).any (Tryd.pinned.checked.prog.loopsFrom ·)) && (Rows.jsonBackRow.wideKeys == (Tryd.f4.params.toList ++ Rows.jsonBackSpec.plain.varTypes Tryd.pinned.checked.prog ++ Tryd.f4.resultTypes.toList).any (Tryd.pinned.checked.prog.wideKeysFrom ·)) && Rows.jsonBackSpec.vars.all (Tryd.pinned.checked.prog.varReadable ·) && Tryd.f4.resultTypes.all (fun t => Tryd.pinned.checked.prog.readableRec t && decide (t < Tryd.pinned.checked.prog.types.size)) && (Rows.jsonBackRow.ifacesOut == Tryd.f4.resultTypes.toList.any (Tryd.pinned.checked.prog.ifacesRec ·)) && (Rows.jsonBackRow.loopsOut == Tryd.f4.resultTypes.toList.any (Tryd.pinned.checked.prog.loopsFrom ·))) = true := by kernel_rfl
theorem jsonBack_c7 : ((Rows.jsonBackRow.plainKeys == Tryd.pinned.checked.prog.plainKeys) && Rows.jsonBackRow.shortTexts.isNone && Tryd.pinned.checked.prog.stopsHeard && Tryd.pinned.checked.prog.mayEnter && (Rows.jsonBackRow.lifted == Tryd.pinned.checked.prog.liftsFinal) && (Tryd.pinned.checked.prog.make == some Rows.jsonBackRow.make) && (Rows.jsonBackRow.kinds == (if Rows.jsonBackRow.domain.isEmpty then [] else Tryd.f4.params.toList.map fun t => match Tryd.pinned.checked.prog.underlying t with | some (.int k) => some k | _ => none)) && (Rows.jsonBackRow.pinned == Rows.jsonBackRow.pinnedBy) && (Rows.jsonBackRow.veiled == (Tryd.f4.params.toList ++ Rows.jsonBackSpec.plain.varTypes Tryd.pinned.checked.prog ++ Tryd.f4.resultTypes.toList).any (Tryd.pinned.checked.prog.veiledRec ·)) && Rows.jsonBackRow.veiledFits Tryd.pinned.checked.prog Tryd.f4.params.toList (Tryd.f4.params.toList ++ Rows.jsonBackSpec.plain.varTypes Tryd.pinned.checked.prog ++ Tryd.f4.resultTypes.toList)) = true := by kernel_rfl
theorem jsonBack_closed : joinedFacts Tryd.pinned.checked.prog 4 Tryd.f4 Rows.jsonBackSpec Rows.jsonBackRow = true := joinedFacts_of jsonBack_c1 jsonBack_c2 jsonBack_c3 jsonBack_c4 jsonBack_c5 jsonBack_c6 jsonBack_c7
theorem jsonBack_instance : Tryd.f4.isInstance Tryd.pinned.checked.prog Rows.jsonBackRow.origin Rows.jsonBackRow.targs := of_decide_eq_true (by kernel_rfl)
theorem jsonBack_wrapper : Tryd.f4.isWrapper Tryd.pinned.checked.prog Rows.jsonBackRow.wrapper Rows.jsonBackRow.mainSum := by
  unfold Func.isWrapper; first | (rw [if_pos (by decide +kernel)]; kernel_rfl) | (rw [if_neg (by decide +kernel)]; exact ⟨rfl, rfl⟩)

theorem jsonBack_said : Rows.JsonBackSaid :=
  OpenClaim.holds_of_wide 4 Tryd.f4 rfl rfl rfl rfl rfl rfl rfl ⟨rfl, rfl, rfl, rfl, rfl⟩ rfl rfl rfl rfl rfl jsonBack_named Tryd.func4 jsonBack_closed jsonBack_instance jsonBack_wrapper
    (fun os started H enc _ => jsonBack_lifted os started H enc)

end Go.Proofs.YtacpnpdggbfkgaaDoor
