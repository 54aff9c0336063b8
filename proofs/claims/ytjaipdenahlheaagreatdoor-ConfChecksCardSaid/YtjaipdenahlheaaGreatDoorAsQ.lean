/-
  Closed facts on the model's entries for reflectlite, at this program's types. Conditions: none.
-/
import Derived.Test.YtjaipdenahlheaaGreatDoorBaseG
import Derived.LaidEql
import Derived.Stop.Asserts
import Derived.RowKitTokens
set_option linter.unusedVariables false
set_option linter.unusedSimpArgs false
namespace Go.Proofs.YtjaipdenahlheaaGreatDoor
open Go.RowKit Go.Extern.Stop Go.Stop Go.Extern
theorem q_valueOfFF (t : Addr) (w : World) : (ReflectliteValue.unpack (.iface 126 (.pointer (some t)))).run Tryz.prog w = .ok (.agg #[.pointer (some ⟨9, 126, none⟩), .pointer (some ⟨w.heap.size, 0, none⟩), .int .u64 150]) (w.alloc (.cells #[.pointer (some t)] 126)) := by kernel_rfl
theorem q_valueOfEE (t : Addr) (w : World) : (ReflectliteValue.unpack (.iface 127 (.pointer (some t)))).run Tryz.prog w = .ok (.agg #[.pointer (some ⟨9, 127, none⟩), .pointer (some ⟨w.heap.size, 0, none⟩), .int .u64 150]) (w.alloc (.cells #[.pointer (some t)] 127)) := by kernel_rfl
theorem q_valueOfF (t : Addr) (w : World) : (ReflectliteValue.unpack (.iface 117 (.pointer (some t)))).run Tryz.prog w = .ok (.agg #[.pointer (some ⟨9, 117, none⟩), .pointer (some ⟨w.heap.size, 0, none⟩), .int .u64 150]) (w.alloc (.cells #[.pointer (some t)] 117)) := by kernel_rfl
theorem q_valueOfE (k : Int) (w : World) : (ReflectliteValue.unpack (.iface 36 (.int .i64 k))).run Tryz.prog w = .ok (.agg #[.pointer (some ⟨9, 36, none⟩), .pointer (some ⟨w.heap.size, 0, none⟩), .int .u64 130]) (w.alloc (.cells #[.int .i64 k] 36)) := by kernel_rfl
theorem q_typeFF (a : Addr) (w : World) : (ReflectliteValue.methodAny (ReflectliteValue.valueError "reflectlite.Value.Type" 0) (fun t _ _ _ => ReflectliteType.toType t) #[.agg #[.pointer (some ⟨9, 126, none⟩), .pointer (some a), .int .u64 150]]).run Tryz.prog w = .ok (.iface 184 (.agg #[.pointer (some ⟨9, 126, none⟩)])) (w) := by kernel_rfl
theorem q_typeEE (a : Addr) (w : World) : (ReflectliteValue.methodAny (ReflectliteValue.valueError "reflectlite.Value.Type" 0) (fun t _ _ _ => ReflectliteType.toType t) #[.agg #[.pointer (some ⟨9, 127, none⟩), .pointer (some a), .int .u64 150]]).run Tryz.prog w = .ok (.iface 184 (.agg #[.pointer (some ⟨9, 127, none⟩)])) (w) := by kernel_rfl
theorem q_mKind (h : Value) (w : World) : (Go.method 383 184 (.agg #[h]) "Kind").run Tryz.prog w = .ok (245, h) (w) := by kernel_rfl
theorem q_mElem (h : Value) (w : World) : (Go.method 383 184 (.agg #[h]) "Elem").run Tryz.prog w = .ok (257, .agg #[h]) (w) := by kernel_rfl
theorem q_mImpl (h : Value) (w : World) : (Go.method 383 184 (.agg #[h]) "Implements").run Tryz.prog w = .ok (258, .agg #[h]) (w) := by kernel_rfl
theorem q_mAss (h : Value) (w : World) : (Go.method 383 184 (.agg #[h]) "AssignableTo").run Tryz.prog w = .ok (255, .agg #[h]) (w) := by kernel_rfl
theorem q_kindFF (w : World) : ((ReflectliteType.abiMethod fun t => (fun a : Nat => Value.int IntKind.u8 (a : Int)) <$> Rtype.kind t) #[.pointer (some ⟨9, 126, none⟩)]).run Tryz.prog w = .ok (.int .u8 22) (w) := by kernel_rfl
theorem q_kindEE (w : World) : ((ReflectliteType.abiMethod fun t => (fun a : Nat => Value.int IntKind.u8 (a : Int)) <$> Rtype.kind t) #[.pointer (some ⟨9, 127, none⟩)]).run Tryz.prog w = .ok (.int .u8 22) (w) := by kernel_rfl
theorem q_kindF (w : World) : ((ReflectliteType.abiMethod fun t => (fun a : Nat => Value.int IntKind.u8 (a : Int)) <$> Rtype.kind t) #[.pointer (some ⟨9, 117, none⟩)]).run Tryz.prog w = .ok (.int .u8 22) (w) := by kernel_rfl
theorem q_kindE (w : World) : ((ReflectliteType.abiMethod fun t => (fun a : Nat => Value.int IntKind.u8 (a : Int)) <$> Rtype.kind t) #[.pointer (some ⟨9, 36, none⟩)]).run Tryz.prog w = .ok (.int .u8 2) (w) := by kernel_rfl
theorem q_elemFF (w : World) : (ReflectliteType.method ReflectliteType.elem #[.agg #[.pointer (some ⟨9, 126, none⟩)]]).run Tryz.prog w = .ok (.iface 184 (.agg #[.pointer (some ⟨9, 117, none⟩)])) (w) := by kernel_rfl
theorem q_elemEE (w : World) : (ReflectliteType.method ReflectliteType.elem #[.agg #[.pointer (some ⟨9, 127, none⟩)]]).run Tryz.prog w = .ok (.iface 184 (.agg #[.pointer (some ⟨9, 36, none⟩)])) (w) := by kernel_rfl
theorem q_implF (w : World) : (ReflectliteType.relation "Implements" ReflectliteType.implements_ #[.agg #[.pointer (some ⟨9, 117, none⟩)], .iface 184 (.agg #[.pointer (some ⟨9, 34, none⟩)])]).run Tryz.prog w = .ok (.bool true) (w) := by kernel_rfl
theorem q_typeOfF (v : Value) (w : World) : (ReflectliteType.typeOf #[.iface 117 v]).run Tryz.prog w = .ok (.iface 184 (.agg #[.pointer (some ⟨9, 117, none⟩)])) (w) := by kernel_rfl
theorem q_implE (w : World) : (ReflectliteType.relation "Implements" ReflectliteType.implements_ #[.agg #[.pointer (some ⟨9, 36, none⟩)], .iface 184 (.agg #[.pointer (some ⟨9, 34, none⟩)])]).run Tryz.prog w = .ok (.bool true) (w) := by kernel_rfl
theorem q_typeOfE (v : Value) (w : World) : (ReflectliteType.typeOf #[.iface 36 v]).run Tryz.prog w = .ok (.iface 184 (.agg #[.pointer (some ⟨9, 36, none⟩)])) (w) := by kernel_rfl
theorem q_assFF (w : World) : (ReflectliteType.relation "AssignableTo" ReflectliteType.assignableTo #[.agg #[.pointer (some ⟨9, 117, none⟩)], .iface 184 (.agg #[.pointer (some ⟨9, 117, none⟩)])]).run Tryz.prog w = .ok (.bool true) (w) := by kernel_rfl
theorem q_assFE (w : World) : (ReflectliteType.relation "AssignableTo" ReflectliteType.assignableTo #[.agg #[.pointer (some ⟨9, 117, none⟩)], .iface 184 (.agg #[.pointer (some ⟨9, 36, none⟩)])]).run Tryz.prog w = .ok (.bool false) (w) := by kernel_rfl
theorem q_assEF (w : World) : (ReflectliteType.relation "AssignableTo" ReflectliteType.assignableTo #[.agg #[.pointer (some ⟨9, 36, none⟩)], .iface 184 (.agg #[.pointer (some ⟨9, 117, none⟩)])]).run Tryz.prog w = .ok (.bool false) (w) := by kernel_rfl
theorem q_assEE (w : World) : (ReflectliteType.relation "AssignableTo" ReflectliteType.assignableTo #[.agg #[.pointer (some ⟨9, 36, none⟩)], .iface 184 (.agg #[.pointer (some ⟨9, 36, none⟩)])]).run Tryz.prog w = .ok (.bool true) (w) := by kernel_rfl
theorem q_partsFF (a : Addr) (w : World) : (ReflectliteValue.parts (.agg #[.pointer (some ⟨9, 126, none⟩), .pointer (some a), .int .u64 150])).run Tryz.prog w = .ok (some (126, a, 150)) (w) := by kernel_rfl
theorem q_partsEE (a : Addr) (w : World) : (ReflectliteValue.parts (.agg #[.pointer (some ⟨9, 127, none⟩), .pointer (some a), .int .u64 150])).run Tryz.prog w = .ok (some (127, a, 150)) (w) := by kernel_rfl
theorem q_partsF (a : Addr) (w : World) : (ReflectliteValue.parts (.agg #[.pointer (some ⟨9, 117, none⟩), .pointer (some a), .int .u64 150])).run Tryz.prog w = .ok (some (117, a, 150)) (w) := by kernel_rfl
theorem q_partsFa (a : Addr) (w : World) : (ReflectliteValue.parts (.agg #[.pointer (some ⟨9, 117, none⟩), .pointer (some a), .int .u64 406])).run Tryz.prog w = .ok (some (117, a, 406)) (w) := by kernel_rfl
theorem q_partsE (a : Addr) (w : World) : (ReflectliteValue.parts (.agg #[.pointer (some ⟨9, 36, none⟩), .pointer (some a), .int .u64 130])).run Tryz.prog w = .ok (some (36, a, 130)) (w) := by kernel_rfl
theorem q_partsEa (a : Addr) (w : World) : (ReflectliteValue.parts (.agg #[.pointer (some ⟨9, 36, none⟩), .pointer (some a), .int .u64 386])).run Tryz.prog w = .ok (some (36, a, 386)) (w) := by kernel_rfl
theorem q_elemOfF (w : World) : (Rtype.elem? 126).run Tryz.prog w = .ok (some 117) (w) := by kernel_rfl
theorem q_mkF (p : Addr) (w : World) : (ReflectliteValue.mk 117 p ReflectliteValue.flagAddr).run Tryz.prog w = .ok (.agg #[.pointer (some ⟨9, 117, none⟩), .pointer (some p), .int .u64 406]) (w) := by kernel_rfl
theorem q_directF (w : World) : (Rtype.directlyAssignable 117 117).run Tryz.prog w = .ok (true) (w) := by kernel_rfl
theorem q_sizeF (w : World) : (sizeOf 117).run Tryz.prog w = .ok (1) (w) := by kernel_rfl
theorem q_elemOfE (w : World) : (Rtype.elem? 127).run Tryz.prog w = .ok (some 36) (w) := by kernel_rfl
theorem q_mkE (p : Addr) (w : World) : (ReflectliteValue.mk 36 p ReflectliteValue.flagAddr).run Tryz.prog w = .ok (.agg #[.pointer (some ⟨9, 36, none⟩), .pointer (some p), .int .u64 386]) (w) := by kernel_rfl
theorem q_directE (w : World) : (Rtype.directlyAssignable 36 36).run Tryz.prog w = .ok (true) (w) := by kernel_rfl
theorem q_sizeE (w : World) : (sizeOf 36).run Tryz.prog w = .ok (1) (w) := by kernel_rfl
theorem rlm (z : Sem Value) (f : TypeId → Addr → Nat → Nat → Sem Value) (v : Value) :
    ReflectliteValue.method z f #[v] = (do match ← ReflectliteValue.parts v with | none => z | some (t, a, fl) => f t a fl (fl % 32)) := rfl
theorem rls (v x : Value) : ReflectliteValue.set #[v, x] = (do
    let (some (dst, a, fl), some (src, b, _)) := (← ReflectliteValue.parts v, ← ReflectliteValue.parts x)
      | unsupported (.noEntry "extern/(internal/reflectlite.Value).Set.zeroValue")
    if fl / ReflectliteValue.flagAddr % 2 == 0 then unsupported (.noEntry "extern/(internal/reflectlite.Value).Set.unaddressable")
    let val ← loadVar src b
    if ← Rtype.directlyAssignable dst src then storeVar dst a val
    else if ← Rtype.implements dst src then
      if (← Rtype.kind src) == 20 then
        match val with
        | .nilIface => unsupported (.noEntry "extern/reflectlite: a nil value of one interface type handed on as a value of another")
        | _ => storeVar dst a val
      else storeVar dst a (.iface src val)
    else panicString ("reflectlite.Set: value of type " ++ (← Rtype.spelt src) ++ " is not assignable to type " ++ (← Rtype.spelt dst))
    pure (.tuple #[])) := rfl
/-- (Value).IsNil and (Value).Elem at a target that is not nil. -/
theorem q_isNilF (a p : Addr) (W : World) (ha : W.cell? a = some (.pointer (some p))) :
    (ReflectliteValue.method (ReflectliteValue.valueError "reflectlite.Value.IsNil" 0) ReflectliteValue.isNil #[.agg #[.pointer (some ⟨9, 126, none⟩), .pointer (some a), .int .u64 150]]).run Tryz.prog W = .ok (.bool false) W := by
  rw [rlm]
  simp only [Sem.run_bind, q_partsFF, Result.andThen]
  simp [ReflectliteValue.isNil, loadVar, isAgg, underlying, Tryz.underlying126, ha, Result.andThen]
theorem q_elemVF (a p : Addr) (W : World) (ha : W.cell? a = some (.pointer (some p))) :
    (ReflectliteValue.method (ReflectliteValue.valueError "reflectlite.Value.Elem" 0) ReflectliteValue.elem #[.agg #[.pointer (some ⟨9, 126, none⟩), .pointer (some a), .int .u64 150]]).run Tryz.prog W
      = .ok (.agg #[.pointer (some ⟨9, 117, none⟩), .pointer (some p), .int .u64 406]) W := by
  rw [rlm]
  simp only [Sem.run_bind, q_partsFF, Result.andThen]
  simp [ReflectliteValue.elem, loadVar, isAgg, underlying, Tryz.underlying126, ha, Result.andThen, q_elemOfF, q_mkF]
/-- (Value).IsNil and (Value).Elem at a target that is not nil. -/
theorem q_isNilE (a p : Addr) (W : World) (ha : W.cell? a = some (.pointer (some p))) :
    (ReflectliteValue.method (ReflectliteValue.valueError "reflectlite.Value.IsNil" 0) ReflectliteValue.isNil #[.agg #[.pointer (some ⟨9, 127, none⟩), .pointer (some a), .int .u64 150]]).run Tryz.prog W = .ok (.bool false) W := by
  rw [rlm]
  simp only [Sem.run_bind, q_partsEE, Result.andThen]
  simp [ReflectliteValue.isNil, loadVar, isAgg, underlying, Tryz.underlying127, ha, Result.andThen]
theorem q_elemVE (a p : Addr) (W : World) (ha : W.cell? a = some (.pointer (some p))) :
    (ReflectliteValue.method (ReflectliteValue.valueError "reflectlite.Value.Elem" 0) ReflectliteValue.elem #[.agg #[.pointer (some ⟨9, 127, none⟩), .pointer (some a), .int .u64 150]]).run Tryz.prog W
      = .ok (.agg #[.pointer (some ⟨9, 36, none⟩), .pointer (some p), .int .u64 386]) W := by
  rw [rlm]
  simp only [Sem.run_bind, q_partsEE, Result.andThen]
  simp [ReflectliteValue.elem, loadVar, isAgg, underlying, Tryz.underlying127, ha, Result.andThen, q_elemOfE, q_mkE]
theorem q_setF (ta b e : Addr) (old : Value) (W : World) (hb : W.cell? b = some (.pointer (some e))) (ht : W.cell? ta = some old) (hf : W.frozen? ta = false) :
    (ReflectliteValue.set #[.agg #[.pointer (some ⟨9, 117, none⟩), .pointer (some ta), .int .u64 406], .agg #[.pointer (some ⟨9, 117, none⟩), .pointer (some b), .int .u64 150]]).run Tryz.prog W = .ok (.tuple #[]) (W.setCell ta (.pointer (some e))) := by
  rw [rls]
  simp only [Sem.run_bind, q_partsFa, q_partsF, Result.andThen]
  simp [ReflectliteValue.flagAddr, loadVar, isAgg, underlying, Tryz.underlying117, hb, Result.andThen, q_directF, storeVar, Value.cells, storeCells, Addr.add]
  rw [run_store Tryz.prog W ta _ _ (by rfl)]
  simp [ht, hf]
theorem q_setE (ta b : Addr) (k : Int) (old : Value) (W : World) (hb : W.cell? b = some (.int .i64 k)) (ht : W.cell? ta = some old) (hf : W.frozen? ta = false) :
    (ReflectliteValue.set #[.agg #[.pointer (some ⟨9, 36, none⟩), .pointer (some ta), .int .u64 386], .agg #[.pointer (some ⟨9, 36, none⟩), .pointer (some b), .int .u64 130]]).run Tryz.prog W = .ok (.tuple #[]) (W.setCell ta (.int .i64 k)) := by
  rw [rls]
  simp only [Sem.run_bind, q_partsEa, q_partsE, Result.andThen]
  simp [ReflectliteValue.flagAddr, loadVar, isAgg, underlying, Tryz.underlying36, hb, Result.andThen, q_directE, storeVar, Value.cells, storeCells, Addr.add]
  rw [run_store Tryz.prog W ta _ _ (by rfl)]
  simp [ht, hf]
/-! What an error's type asserts. -/
theorem q_noAsF (v : Value) (xT : TypeId) (w : World) : (Instr.typeAssert (.iface 117 v) xT 189 true).run Tryz.prog w = .ok (.tuple #[.nilIface, .bool false]) w := run_typeAssert_lacksB Tryz.underlying189 (by kernel_rfl) (by kernel_rfl) v xT w
theorem q_noAsE (v : Value) (xT : TypeId) (w : World) : (Instr.typeAssert (.iface 36 v) xT 189 true).run Tryz.prog w = .ok (.tuple #[.nilIface, .bool false]) w := run_typeAssert_lacksB Tryz.underlying189 (by kernel_rfl) (by kernel_rfl) v xT w
theorem q_isUnF (v : Value) (xT : TypeId) (w : World) : (Instr.typeAssert (.iface 117 v) xT 192 true).run Tryz.prog w = .ok (.tuple #[.iface 117 v, .bool true]) w := run_typeAssert_hasB Tryz.underlying192 (by kernel_rfl) v xT w
theorem q_noUnE (v : Value) (xT : TypeId) (w : World) : (Instr.typeAssert (.iface 36 v) xT 192 true).run Tryz.prog w = .ok (.tuple #[.nilIface, .bool false]) w := run_typeAssert_lacksB Tryz.underlying192 (by kernel_rfl) (by kernel_rfl) v xT w
theorem q_noUsE (v : Value) (xT : TypeId) (w : World) : (Instr.typeAssert (.iface 36 v) xT 193 true).run Tryz.prog w = .ok (.tuple #[.nilIface, .bool false]) w := run_typeAssert_lacksB Tryz.underlying193 (by kernel_rfl) (by kernel_rfl) v xT w
theorem q_mUn (e : Addr) (w : World) : (Go.method 383 117 (.pointer (some e)) "Unwrap").run Tryz.prog w = .ok (250, .pointer (some e)) (w) := by kernel_rfl
end Go.Proofs.YtjaipdenahlheaaGreatDoor
