/- errors.As at this program's two error types does what its contract says; the variable that it reads is as its row lists it. Printed by a program of this session's for this seat's numbers. Conditions: none. -/
import Derived.WalkKit
import Derived.LaidEql
import Derived.Stop.Asserts
import Derived.RowKitTokens
import Derived.LoopTactic
import Derived.Below
import Derived.Test.YtbabneakocnnoaaGreatDoorProg
import Derived.Test.YtbabneakocnnoaaGreatDoorRows
import Derived.Test.YtbabneakocnnoaaGreatDoorBvm4
set_option linter.unusedVariables false
set_option linter.unusedSimpArgs false
set_option maxRecDepth 100000
namespace Go.Proofs.YtbabneakocnnoaaGreatDoor
open Go.RowKit Go.Extern.Stop Go.Stop Go.Extern Go.Bvm

theorem as_valueOfFF (t : Addr) (w : World) : (ReflectliteValue.unpack (.iface 100 (.pointer (some t)))).run Tryz.prog w
    = .ok (.agg #[.pointer (some ⟨5, 100, none⟩), .pointer (some ⟨w.heap.size, 0, none⟩), .int .u64 150]) (w.alloc (.cells #[.pointer (some t)] 100)) := by kernel_rfl
theorem as_valueOfF (e : Addr) (w : World) : (ReflectliteValue.unpack (.iface 95 (.pointer (some e)))).run Tryz.prog w
    = .ok (.agg #[.pointer (some ⟨5, 95, none⟩), .pointer (some ⟨w.heap.size, 0, none⟩), .int .u64 150]) (w.alloc (.cells #[.pointer (some e)] 95)) := by kernel_rfl
theorem as_typeFF (a : Addr) (w : World) : (ReflectliteValue.methodAny (ReflectliteValue.valueError "reflectlite.Value.Type" 0) (fun t _ _ _ => ReflectliteType.toType t) #[.agg #[.pointer (some ⟨5, 100, none⟩), .pointer (some a), .int .u64 150]]).run Tryz.prog w
    = .ok (.iface 194 (.agg #[.pointer (some ⟨5, 100, none⟩)])) w := by kernel_rfl
theorem as_kindFF (w : World) : ((ReflectliteType.abiMethod fun t => (fun a : Nat => Value.int IntKind.u8 (a : Int)) <$> Rtype.kind t) #[.pointer (some ⟨5, 100, none⟩)]).run Tryz.prog w = .ok (.int .u8 22) w := by kernel_rfl
theorem as_kindF (w : World) : ((ReflectliteType.abiMethod fun t => (fun a : Nat => Value.int IntKind.u8 (a : Int)) <$> Rtype.kind t) #[.pointer (some ⟨5, 95, none⟩)]).run Tryz.prog w = .ok (.int .u8 22) w := by kernel_rfl
theorem as_rlm (z : Sem Value) (f : TypeId → Addr → Nat → Nat → Sem Value) (v : Value) :
    ReflectliteValue.method z f #[v] = (do match ← ReflectliteValue.parts v with | none => z | some (t, a, fl) => f t a fl (fl % 32)) := rfl
theorem as_partsFF (a : Addr) (w : World) : (ReflectliteValue.parts (.agg #[.pointer (some ⟨5, 100, none⟩), .pointer (some a), .int .u64 150])).run Tryz.prog w = .ok (some (100, a, 150)) w := by kernel_rfl
theorem as_isNil (a p : Addr) (W : World) (ha : W.cell? a = some (.pointer (some p))) :
    (ReflectliteValue.method (ReflectliteValue.valueError "reflectlite.Value.IsNil" 0) ReflectliteValue.isNil #[.agg #[.pointer (some ⟨5, 100, none⟩), .pointer (some a), .int .u64 150]]).run Tryz.prog W = .ok (.bool false) W := by
  rw [as_rlm]
  simp only [Sem.run_bind, as_partsFF, Result.andThen]
  simp [ReflectliteValue.isNil, loadVar, isAgg, underlying, Tryz.underlying100, ha, Result.andThen]
theorem as_mKind (h : Value) (w : World) : (Go.method 405 194 (.agg #[h]) "Kind").run Tryz.prog w = .ok (254, h) w := by kernel_rfl
theorem as_mElem (h : Value) (w : World) : (Go.method 405 194 (.agg #[h]) "Elem").run Tryz.prog w = .ok (265, .agg #[h]) w := by kernel_rfl
theorem as_mImplements (h : Value) (w : World) : (Go.method 405 194 (.agg #[h]) "Implements").run Tryz.prog w = .ok (266, .agg #[h]) w := by kernel_rfl
theorem as_mAssignable (h : Value) (w : World) : (Go.method 405 194 (.agg #[h]) "AssignableTo").run Tryz.prog w = .ok (263, .agg #[h]) w := by kernel_rfl
theorem as_mUnwrap (p : Addr) (w : World) : (Go.method 405 208 (.pointer (some p)) "Unwrap").run Tryz.prog w = .ok (274, .pointer (some p)) w := by kernel_rfl
theorem as_elemFF (w : World) : (ReflectliteType.method ReflectliteType.elem #[.agg #[.pointer (some ⟨5, 100, none⟩)]]).run Tryz.prog w = .ok (.iface 194 (.agg #[.pointer (some ⟨5, 95, none⟩)])) w := by kernel_rfl
theorem as_implements (w : World) : (ReflectliteType.relation "Implements" ReflectliteType.implements_ #[.agg #[.pointer (some ⟨5, 95, none⟩)], .iface 194 (.agg #[.pointer (some ⟨5, 98, none⟩)])]).run Tryz.prog w = .ok (.bool true) w := by kernel_rfl
theorem as_typeOfF (v : Value) (w : World) : (ReflectliteType.typeOf #[.iface 95 v]).run Tryz.prog w = .ok (.iface 194 (.agg #[.pointer (some ⟨5, 95, none⟩)])) w := by kernel_rfl
theorem as_typeOfW (v : Value) (w : World) : (ReflectliteType.typeOf #[.iface 208 v]).run Tryz.prog w = .ok (.iface 194 (.agg #[.pointer (some ⟨5, 208, none⟩)])) w := by kernel_rfl
theorem as_assignF (w : World) : (ReflectliteType.relation "AssignableTo" ReflectliteType.assignableTo #[.agg #[.pointer (some ⟨5, 95, none⟩)], .iface 194 (.agg #[.pointer (some ⟨5, 95, none⟩)])]).run Tryz.prog w = .ok (.bool true) w := by kernel_rfl
theorem as_assignW (w : World) : (ReflectliteType.relation "AssignableTo" ReflectliteType.assignableTo #[.agg #[.pointer (some ⟨5, 208, none⟩)], .iface 194 (.agg #[.pointer (some ⟨5, 95, none⟩)])]).run Tryz.prog w = .ok (.bool false) w := by kernel_rfl
theorem as_elemOfFF (w : World) : (Rtype.elem? 100).run Tryz.prog w = .ok (some 95) w := by kernel_rfl
theorem as_mkF (p : Addr) (w : World) : (ReflectliteValue.mk 95 p ReflectliteValue.flagAddr).run Tryz.prog w = .ok (.agg #[.pointer (some ⟨5, 95, none⟩), .pointer (some p), .int .u64 406]) w := by kernel_rfl
theorem as_elemV (a p : Addr) (W : World) (ha : W.cell? a = some (.pointer (some p))) :
    (ReflectliteValue.method (ReflectliteValue.valueError "reflectlite.Value.Elem" 0) ReflectliteValue.elem #[.agg #[.pointer (some ⟨5, 100, none⟩), .pointer (some a), .int .u64 150]]).run Tryz.prog W
      = .ok (.agg #[.pointer (some ⟨5, 95, none⟩), .pointer (some p), .int .u64 406]) W := by
  rw [as_rlm]
  simp only [Sem.run_bind, as_partsFF, Result.andThen]
  simp [ReflectliteValue.elem, loadVar, isAgg, underlying, Tryz.underlying100, ha, Result.andThen, as_elemOfFF, as_mkF]
theorem as_rls (v x : Value) : ReflectliteValue.set #[v, x] = (do
    let (some (dst, a, fl), some (src, b, _)) := (← ReflectliteValue.parts v, ← ReflectliteValue.parts x)
      | unsupported (.noEntry "extern/(internal/reflectlite.Value).Set.zeroValue")
    if fl / ReflectliteValue.flagAddr % 2 == 0 then unsupported (.noEntry "extern/(internal/reflectlite.Value).Set.unaddressable")
    let val ← loadVar src b
    if ← Rtype.directlyAssignable dst src then storeVar dst a val
    else if ← Rtype.implements dst src then
      if (← Rtype.kind src) == 20 then
        match val with
        | .nilIface => unsupported (.noEntry "extern/reflectlite: a nil value of one interface type handed on as a value of another")
        | _ => storeVar dst a val
      else storeVar dst a (.iface src val)
    else panicString ("reflectlite.Set: value of type " ++ (← Rtype.spelt src) ++ " is not assignable to type " ++ (← Rtype.spelt dst))
    pure (.tuple #[])) := rfl
theorem as_partsA (a : Addr) (w : World) : (ReflectliteValue.parts (.agg #[.pointer (some ⟨5, 95, none⟩), .pointer (some a), .int .u64 406])).run Tryz.prog w = .ok (some (95, a, 406)) w := by kernel_rfl
theorem as_partsF (a : Addr) (w : World) : (ReflectliteValue.parts (.agg #[.pointer (some ⟨5, 95, none⟩), .pointer (some a), .int .u64 150])).run Tryz.prog w = .ok (some (95, a, 150)) w := by kernel_rfl
theorem as_direct (w : World) : (Rtype.directlyAssignable 95 95).run Tryz.prog w = .ok true w := by kernel_rfl
theorem as_set (ta b e : Addr) (old : Value) (W : World) (hb : W.cell? b = some (.pointer (some e))) (ht : W.cell? ta = some old) (hf : W.frozen? ta = false) :
    (ReflectliteValue.set #[.agg #[.pointer (some ⟨5, 95, none⟩), .pointer (some ta), .int .u64 406], .agg #[.pointer (some ⟨5, 95, none⟩), .pointer (some b), .int .u64 150]]).run Tryz.prog W
      = .ok (.tuple #[]) (W.setCell ta (.pointer (some e))) := by
  rw [as_rls]
  simp only [Sem.run_bind, as_partsA, as_partsF, Result.andThen]
  simp [ReflectliteValue.flagAddr, loadVar, isAgg, underlying, Tryz.underlying95, hb, Result.andThen, as_direct, storeVar, Value.cells, storeCells, Addr.add]
  rw [run_store Tryz.prog W ta _ _ (by rfl)]
  simp [ht, hf]
theorem as_noAsW (v : Value) (xT : TypeId) (w : World) : (Instr.typeAssert (.iface 208 v) xT 199 true).run Tryz.prog w = .ok (.tuple #[.nilIface, .bool false]) w := run_typeAssert_lacksB Tryz.underlying199 (by kernel_rfl) (by kernel_rfl) v xT w
theorem as_unW (v : Value) (xT : TypeId) (w : World) : (Instr.typeAssert (.iface 208 v) xT 202 true).run Tryz.prog w = .ok (.tuple #[.iface 208 v, .bool true]) w := run_typeAssert_hasB Tryz.underlying202 (by kernel_rfl) v xT w

theorem as_unwrap (b o : Nat) (v : Value) (w : World) (h : w.cell? ⟨b, o + 1, none⟩ = some v) : Calls Tryz.prog 274 #[.pointer (some ⟨b, o, none⟩)] w fun e w' => e = .returned v ∧ w' = w := by
  go_enter Tryz.func274, Tryz.ntmps274
  go_wp2
  go_ret
  exact ⟨rfl, rfl⟩

set_option maxHeartbeats 4000000 in
theorem as_ok (e t a : Addr) (old v : Value) (n : Nat) (w : World) (hc : Chn 208 95 w e v n) (ha : w.cell? a = some (.pointer (some t))) (ht : w.cell? t = some old) (hf : w.frozen? t = false) :
    Calls Tryz.prog 81 #[v, .iface 100 (.pointer (some t)), .agg #[.pointer (some ⟨5, 100, none⟩), .pointer (some a), .int .u64 150], .iface 194 (.agg #[.pointer (some ⟨5, 95, none⟩)])] w
      fun ev w' => ev = .returned (.bool true) ∧ w' = ((w.alloc (.cells #[.pointer (some ⟨5, 100, none⟩), .pointer (some a), .int .u64 150] 147)).alloc (.cells #[.pointer (some e)] 95)).setCell t (.pointer (some e)) := by
  have h138 := @run_callFunc_extern Tryz.prog 138 _ ReflectliteType.typeOf Tryz.func138 (by kernel_rfl) (by kernel_rfl) (by kernel_rfl) (by kernel_rfl)
  have h263 := @run_callFunc_extern Tryz.prog 263 _ (ReflectliteType.relation "AssignableTo" ReflectliteType.assignableTo) Tryz.func263 (by kernel_rfl) (by kernel_rfl) (by kernel_rfl) (by kernel_rfl)
  have h139 := @run_callFunc_extern Tryz.prog 139 _ (ReflectliteValue.method (ReflectliteValue.valueError "reflectlite.Value.Elem" 0) ReflectliteValue.elem) Tryz.func139 (by kernel_rfl) (by kernel_rfl) (by kernel_rfl) (by kernel_rfl)
  have h140 := @run_callFunc_extern Tryz.prog 140 _ ReflectliteValue.set Tryz.func140 (by kernel_rfl) (by kernel_rfl) (by kernel_rfl) (by kernel_rfl)
  have h78 := @run_callFunc_extern Tryz.prog 78 _ (fun args => ReflectliteValue.unpack (args.getD 0 (.tuple #[]))) Tryz.func78 (by kernel_rfl) (by kernel_rfl) (by kernel_rfl) (by kernel_rfl)
  have tOF := as_typeOfF
  have tOW := as_typeOfW
  have mA := as_mAssignable
  have aF := as_assignF
  have aW := as_assignW
  have nW := as_noAsW
  have uW := as_unW
  have mU := as_mUnwrap
  have vF := as_valueOfF
  go_enter Tryz.func81, Tryz.ntmps81
  go_wp2
  go_loopw [0] (fun v wr => (∃ n, Chn 208 95 w e v n) ∧ wr = w.alloc (.cells #[.pointer (some ⟨5, 100, none⟩), .pointer (some a), .int .u64 150] 147)) (fun v _ => chLen 208 95 w e v)
  case atStart => exact ⟨⟨n, hc⟩, rfl⟩
  case round =>
    obtain ⟨⟨n, hcn⟩, rfl⟩ := hrel
    have htl := as_lt ht
    cases hcn with
    | base =>
      have el := as_elemV a t (w.alloc (.cells #[.pointer (some ⟨5, 100, none⟩), .pointer (some a), .int .u64 150] 147)) (by rw [World.cell?_alloc_lt _ _ a (as_lt ha)]; exact ha)
      have st := as_set t ⟨w.heap.size + 1, 0, none⟩ e old ((w.alloc (.cells #[.pointer (some ⟨5, 100, none⟩), .pointer (some a), .int .u64 150] 147)).alloc (.cells #[.pointer (some e)] 95))
        (by rw [World.cell?_alloc_at _ _ _ _ (by simp)]; rfl)
        (by rw [World.cell?_alloc_lt _ _ t (by simp; omega), World.cell?_alloc_lt _ _ t htl]; exact ht)
        (by rw [World.frozen?_alloc_old _ _ t (by simp; omega), World.frozen?_alloc_old _ _ t (Nat.ne_of_lt htl)]; exact hf)
      go_wp2
      go_ret
      exact ⟨rfl, rfl⟩
    | @step b o n v hb hcn =>
      have hbl : b < w.heap.size := as_lt hb
      have hb1 : (w.alloc (.cells #[.pointer (some ⟨5, 100, none⟩), .pointer (some a), .int .u64 150] 147)).cell? ⟨b, o + 1, none⟩ = some v := by
        rw [World.cell?_alloc_lt _ _ ⟨b, o + 1, none⟩ hbl]; exact hb
      obtain ⟨tt, pv, rfl⟩ : ∃ tt pv, v = .iface tt pv := by cases hcn <;> exact ⟨_, _, rfl⟩
      go_wp2_with (go_at_call 274; refine (as_unwrap _ _ _ _ hb1).mono ?_; rintro e w' ⟨rfl, rfl⟩)
      go_roundw
      case rel => exact ⟨⟨_, hcn⟩, trivial⟩
      case measure =>
        have e1 := chLen_eq (by decide) (Chn.step hb hcn)
        have e2 := chLen_eq (by decide) hcn
        rw [e1, e2]
        omega

set_option maxHeartbeats 4000000 in
theorem asTop_ok (e t : Addr) (old v : Value) (n : Nat) (w : World) (hg : w.cell? ⟨0, 0, none⟩ = some (.iface 194 (.agg #[.pointer (some ⟨5, 98, none⟩)]))) (hc : Chn 208 95 w e v n) (ht : w.cell? t = some old) (hf : w.frozen? t = false) :
    Calls Tryz.prog 46 #[v, .iface 100 (.pointer (some t))] w fun ev w' => ev = .returned (.bool true) ∧
      w' = ((((w.alloc (.cells #[.pointer (some t)] 100)).alloc (.cells #[.pointer (some ⟨5, 100, none⟩), .pointer (some ⟨w.heap.size, 0, none⟩), .int .u64 150] 147)).alloc (.cells #[.pointer (some ⟨5, 100, none⟩), .pointer (some ⟨w.heap.size, 0, none⟩), .int .u64 150] 147)).alloc (.cells #[.pointer (some e)] 95)).setCell t (.pointer (some e)) := by
  have h78 := @run_callFunc_extern Tryz.prog 78 _ (fun args => ReflectliteValue.unpack (args.getD 0 (.tuple #[]))) Tryz.func78 (by kernel_rfl) (by kernel_rfl) (by kernel_rfl) (by kernel_rfl)
  have h79 := @run_callFunc_extern Tryz.prog 79 _ (ReflectliteValue.methodAny (ReflectliteValue.valueError "reflectlite.Value.Type" 0) (fun t _ _ _ => ReflectliteType.toType t)) Tryz.func79 (by kernel_rfl) (by kernel_rfl) (by kernel_rfl) (by kernel_rfl)
  have h80 := @run_callFunc_extern Tryz.prog 80 _ (ReflectliteValue.method (ReflectliteValue.valueError "reflectlite.Value.IsNil" 0) ReflectliteValue.isNil) Tryz.func80 (by kernel_rfl) (by kernel_rfl) (by kernel_rfl) (by kernel_rfl)
  have h254 := @run_callFunc_extern Tryz.prog 254 _ (ReflectliteType.abiMethod fun t => do pure (.int .u8 (← Rtype.kind t))) Tryz.func254 (by kernel_rfl) (by kernel_rfl) (by kernel_rfl) (by kernel_rfl)
  have h265 := @run_callFunc_extern Tryz.prog 265 _ (ReflectliteType.method ReflectliteType.elem) Tryz.func265 (by kernel_rfl) (by kernel_rfl) (by kernel_rfl) (by kernel_rfl)
  have h266 := @run_callFunc_extern Tryz.prog 266 _ (ReflectliteType.relation "Implements" ReflectliteType.implements_) Tryz.func266 (by kernel_rfl) (by kernel_rfl) (by kernel_rfl) (by kernel_rfl)
  have vFF := as_valueOfFF
  have tFF := as_typeFF
  have mK := as_mKind
  have mE := as_mElem
  have mI := as_mImplements
  have kFF := as_kindFF
  have kF := as_kindF
  have eFF := as_elemFF
  have iF := as_implements
  have n8 := as_isNil ⟨w.heap.size, 0, none⟩ t ((w.alloc (.cells #[.pointer (some t)] 100)).alloc (.cells #[.pointer (some ⟨5, 100, none⟩), .pointer (some ⟨w.heap.size, 0, none⟩), .int .u64 150] 147)) (by rw [World.cell?_alloc_lt _ _ ⟨w.heap.size, 0, none⟩ (by simp), World.cell?_alloc_at _ _ _ _ (by simp)]; rfl)
  have hg2 : ((w.alloc (.cells #[.pointer (some t)] 100)).alloc (.cells #[.pointer (some ⟨5, 100, none⟩), .pointer (some ⟨w.heap.size, 0, none⟩), .int .u64 150] 147)).cell? ⟨0, 0, none⟩ = some (.iface 194 (.agg #[.pointer (some ⟨5, 98, none⟩)])) := by
    have hlt := as_lt hg
    rw [World.cell?_alloc_lt _ _ ⟨0, 0, none⟩ (by simp), World.cell?_alloc_lt _ _ ⟨0, 0, none⟩ hlt]; exact hg
  have htl := as_lt ht
  have hA := as_ok e t ⟨w.heap.size, 0, none⟩ old v n ((w.alloc (.cells #[.pointer (some t)] 100)).alloc (.cells #[.pointer (some ⟨5, 100, none⟩), .pointer (some ⟨w.heap.size, 0, none⟩), .int .u64 150] 147))
    (hc.mono fun a ha => by rw [World.cell?_alloc_lt _ _ a (by simp; omega), World.cell?_alloc_lt _ _ a ha])
    (by rw [World.cell?_alloc_lt _ _ ⟨w.heap.size, 0, none⟩ (by simp), World.cell?_alloc_at _ _ _ _ (by simp)]; rfl)
    (by rw [World.cell?_alloc_lt _ _ t (by simp; omega), World.cell?_alloc_lt _ _ t htl]; exact ht)
    (by rw [World.frozen?_alloc_old _ _ t (by simp; omega), World.frozen?_alloc_old _ _ t (Nat.ne_of_lt htl)]; exact hf)
  obtain ⟨tt, pv, rfl⟩ : ∃ tt pv, v = .iface tt pv := by cases hc <;> exact ⟨_, _, rfl⟩
  go_enter Tryz.func46, Tryz.ntmps46
  go_wp2_with (go_at_call 81; refine hA.mono ?_; rintro e w' ⟨rfl, rfl⟩)
  go_ret
  exact ⟨rfl, rfl⟩

theorem as_nil (t : Value) (w : World) : Calls Tryz.prog 46 #[.nilIface, t] w fun e w' => e = .returned (.bool false) ∧ w' = w := by
  go_enter Tryz.func46, Tryz.ntmps46
  go_wp2
  go_ret
  exact ⟨rfl, rfl⟩
theorem as_C : AsC Tryz.prog 46 0 95 208 100 194 5 98 :=
  ⟨as_nil, fun e t old v n w hg hc ht hf => (asTop_ok e t old v n w hg hc ht hf).mono fun ev w' ⟨e1, e2⟩ => ⟨e1, _, _, _, _, e2⟩⟩
theorem as_ent {G : Nat → Bool} (hG : G 0 = true) : EntOk Tryz.prog G 46 (fun _ => extAs 20 0 95 208 100 194 5 98) := .as 20 (gl := ⟨"errors.errorType", 150, none⟩) (by kernel_rfl) hG (by decide) (by decide) (enters_call Tryz.func46 (by kernel_rfl) (by kernel_rfl)) as_C
theorem as_size : ∀ q, Tryz.prog.globals[0]? = some q → sizeT Tryz.prog q.type ≤ 1 := fun q h => by
  obtain rfl := Option.some.inj ((show Tryz.prog.globals[0]? = some ⟨"errors.errorType", 150, none⟩ by kernel_rfl).symm.trans h)
  exact of_decide_eq_true (by kernel_rfl)
theorem as_named : Tryz.prog.globalNamed "errors.errorType" = some 0 := by kernel_rfl
theorem as_rtype : (Tryz.prog.cutTypes.find? (·.1 == "internal/reflectlite.rtype")).map (·.2) = some 194 := by kernel_rfl
theorem as_oneRow : ((List.range 305).filter fun t => Tryz.prog.rowNamed t [101, 114, 114, 111, 114]) = [98] := by kernel_rfl
theorem as_types : Tryz.prog.types.size = 305 := by kernel_rfl
theorem as_globals : Tryz.prog.globals.size = 5 := by kernel_rfl
end Go.Proofs.YtbabneakocnnoaaGreatDoor
