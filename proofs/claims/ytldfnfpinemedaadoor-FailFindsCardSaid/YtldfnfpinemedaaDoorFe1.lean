/- errors.As, errors.Is: closed facts on the model's entries at this program's types. -/
import Derived.Test.YtldfnfpinemedaaDoorProg
import Derived.WalkKit
import Derived.LaidEql
import Derived.Stop.Asserts
import Derived.RowKitTokens
namespace Go.Proofs.YtldfnfpinemedaaDoor
open Go Go.RowKit Go.Extern.Stop Go.Stop Go.Extern
set_option linter.unusedSimpArgs false
abbrev hnd (t : Nat) : Value := .pointer (some ⟨6, t, none⟩)
theorem valueOf72 (t : Addr) (w : World) : (ReflectliteValue.unpack (.iface 72 (.pointer (some t)))).run Tryd.prog w = .ok (.agg #[hnd 72, .pointer (some ⟨w.heap.size, 0, none⟩), .int .u64 150]) (w.alloc (.cells #[.pointer (some t)] 72)) := by kernel_rfl
theorem valueOf100 (t : Addr) (w : World) : (ReflectliteValue.unpack (.iface 100 (.pointer (some t)))).run Tryd.prog w = .ok (.agg #[hnd 100, .pointer (some ⟨w.heap.size, 0, none⟩), .int .u64 150]) (w.alloc (.cells #[.pointer (some t)] 100)) := by kernel_rfl
theorem valueOf28 (n : Int) (w : World) : (ReflectliteValue.unpack (.iface 28 (.int .i64 n))).run Tryd.prog w = .ok (.agg #[hnd 28, .pointer (some ⟨w.heap.size, 0, none⟩), .int .u64 130]) (w.alloc (.cells #[.int .i64 n] 28)) := by kernel_rfl
theorem valueOf40 (t : Addr) (w : World) : (ReflectliteValue.unpack (.iface 40 (.pointer (some t)))).run Tryd.prog w = .ok (.agg #[hnd 40, .pointer (some ⟨w.heap.size, 0, none⟩), .int .u64 150]) (w.alloc (.cells #[.pointer (some t)] 40)) := by kernel_rfl
theorem type72 (a : Addr) (w : World) : (ReflectliteValue.methodAny (ReflectliteValue.valueError "reflectlite.Value.Type" 0) (fun t _ _ _ => ReflectliteType.toType t) #[.agg #[hnd 72, .pointer (some a), .int .u64 150]]).run Tryd.prog w = .ok (.iface 112 (.agg #[hnd 72])) w := by kernel_rfl
theorem type100 (a : Addr) (w : World) : (ReflectliteValue.methodAny (ReflectliteValue.valueError "reflectlite.Value.Type" 0) (fun t _ _ _ => ReflectliteType.toType t) #[.agg #[hnd 100, .pointer (some a), .int .u64 150]]).run Tryd.prog w = .ok (.iface 112 (.agg #[hnd 100])) w := by kernel_rfl
theorem methodKind (h : Value) (w : World) : (Go.method 301 112 (.agg #[h]) "Kind").run Tryd.prog w = .ok (120, h) w := by kernel_rfl
theorem methodElem (h : Value) (w : World) : (Go.method 301 112 (.agg #[h]) "Elem").run Tryd.prog w = .ok (130, .agg #[h]) w := by kernel_rfl
theorem methodImplements (h : Value) (w : World) : (Go.method 301 112 (.agg #[h]) "Implements").run Tryd.prog w = .ok (131, .agg #[h]) w := by kernel_rfl
theorem methodAssignableTo (h : Value) (w : World) : (Go.method 301 112 (.agg #[h]) "AssignableTo").run Tryd.prog w = .ok (128, .agg #[h]) w := by kernel_rfl
theorem methodComparable (h : Value) (w : World) : (Go.method 301 112 (.agg #[h]) "Comparable").run Tryd.prog w = .ok (129, .agg #[h]) w := by kernel_rfl
theorem methodUnwrap (h : Value) (w : World) : (Go.method 301 40 h "Unwrap").run Tryd.prog w = .ok (19, h) w := by kernel_rfl
theorem kind72 (w : World) : ((ReflectliteType.abiMethod fun t => (fun a : Nat => Value.int IntKind.u8 (a : Int)) <$> Rtype.kind t) #[hnd 72]).run Tryd.prog w = .ok (.int .u8 22) w := by kernel_rfl
theorem kind100 (w : World) : ((ReflectliteType.abiMethod fun t => (fun a : Nat => Value.int IntKind.u8 (a : Int)) <$> Rtype.kind t) #[hnd 100]).run Tryd.prog w = .ok (.int .u8 22) w := by kernel_rfl
theorem kind28 (w : World) : ((ReflectliteType.abiMethod fun t => (fun a : Nat => Value.int IntKind.u8 (a : Int)) <$> Rtype.kind t) #[hnd 28]).run Tryd.prog w = .ok (.int .u8 2) w := by kernel_rfl
theorem kind40 (w : World) : ((ReflectliteType.abiMethod fun t => (fun a : Nat => Value.int IntKind.u8 (a : Int)) <$> Rtype.kind t) #[hnd 40]).run Tryd.prog w = .ok (.int .u8 22) w := by kernel_rfl
theorem elem72 (w : World) : (ReflectliteType.method ReflectliteType.elem #[.agg #[hnd 72]]).run Tryd.prog w = .ok (.iface 112 (.agg #[hnd 28])) w := by kernel_rfl
theorem elem100 (w : World) : (ReflectliteType.method ReflectliteType.elem #[.agg #[hnd 100]]).run Tryd.prog w = .ok (.iface 112 (.agg #[hnd 40])) w := by kernel_rfl
theorem implements28 (w : World) : (ReflectliteType.relation "Implements" ReflectliteType.implements_ #[.agg #[hnd 28], .iface 112 (.agg #[hnd 26])]).run Tryd.prog w = .ok (.bool true) w := by kernel_rfl
theorem implements40 (w : World) : (ReflectliteType.relation "Implements" ReflectliteType.implements_ #[.agg #[hnd 40], .iface 112 (.agg #[hnd 26])]).run Tryd.prog w = .ok (.bool true) w := by kernel_rfl
theorem typeOf28 (v : Value) (w : World) : (ReflectliteType.typeOf #[.iface 28 v]).run Tryd.prog w = .ok (.iface 112 (.agg #[hnd 28])) w := by kernel_rfl
theorem typeOf40 (v : Value) (w : World) : (ReflectliteType.typeOf #[.iface 40 v]).run Tryd.prog w = .ok (.iface 112 (.agg #[hnd 40])) w := by kernel_rfl
theorem asg28_28 (w : World) : (ReflectliteType.relation "AssignableTo" ReflectliteType.assignableTo #[.agg #[hnd 28], .iface 112 (.agg #[hnd 28])]).run Tryd.prog w = .ok (.bool true) w := by kernel_rfl
theorem asg40_28 (w : World) : (ReflectliteType.relation "AssignableTo" ReflectliteType.assignableTo #[.agg #[hnd 40], .iface 112 (.agg #[hnd 28])]).run Tryd.prog w = .ok (.bool false) w := by kernel_rfl
theorem asg28_40 (w : World) : (ReflectliteType.relation "AssignableTo" ReflectliteType.assignableTo #[.agg #[hnd 28], .iface 112 (.agg #[hnd 40])]).run Tryd.prog w = .ok (.bool false) w := by kernel_rfl
theorem asg40_40 (w : World) : (ReflectliteType.relation "AssignableTo" ReflectliteType.assignableTo #[.agg #[hnd 40], .iface 112 (.agg #[hnd 40])]).run Tryd.prog w = .ok (.bool true) w := by kernel_rfl
theorem cmp28 (w : World) : (ReflectliteType.method (fun t => do Rtype.noPackHeld "Comparable" t; pure (.bool (← typeInfo t).comparable)) #[.agg #[hnd 28]]).run Tryd.prog w = .ok (.bool true) w := by kernel_rfl
theorem typeOf78 (v : Value) (w : World) : (ReflectliteType.typeOf #[.iface 78 v]).run Tryd.prog w = .ok (.iface 112 (.agg #[hnd 78])) w := by kernel_rfl
theorem asg78_28 (w : World) : (ReflectliteType.relation "AssignableTo" ReflectliteType.assignableTo #[.agg #[hnd 78], .iface 112 (.agg #[hnd 28])]).run Tryd.prog w = .ok (.bool false) w := by kernel_rfl
theorem asg78_40 (w : World) : (ReflectliteType.relation "AssignableTo" ReflectliteType.assignableTo #[.agg #[hnd 78], .iface 112 (.agg #[hnd 40])]).run Tryd.prog w = .ok (.bool false) w := by kernel_rfl
theorem u72 : Tryd.prog.underlying 72 = some (.pointer 28) := by kernel_rfl
theorem u100 : Tryd.prog.underlying 100 = some (.pointer 40) := by kernel_rfl
theorem u28 : Tryd.prog.underlying 28 = some (.int .i64) := by kernel_rfl
theorem u40 : Tryd.prog.underlying 40 = some (.pointer 70) := by kernel_rfl
theorem u26 : Tryd.prog.underlying 26 = some (.interface #[("Error", 42)]) := by kernel_rfl
theorem u81 : Tryd.prog.underlying 81 = some (.interface #[("Unwrap", 41)]) := by kernel_rfl
theorem u114 : Tryd.prog.underlying 114 = some (.interface #[("Is", 116)]) := by kernel_rfl
theorem u117 : Tryd.prog.underlying 117 = some (.interface #[("Unwrap", 119)]) := by kernel_rfl
theorem u132 : Tryd.prog.underlying 132 = some (.interface #[("As", 134)]) := by kernel_rfl
theorem no28_132 (v : Value) (xT : TypeId) (w : World) : (Instr.typeAssert (.iface 28 v) xT 132 true).run Tryd.prog w = .ok (.tuple #[.nilIface, .bool false]) w := run_typeAssert_lacksB u132 (by kernel_rfl) (by kernel_rfl) v xT w
theorem no40_132 (v : Value) (xT : TypeId) (w : World) : (Instr.typeAssert (.iface 40 v) xT 132 true).run Tryd.prog w = .ok (.tuple #[.nilIface, .bool false]) w := run_typeAssert_lacksB u132 (by kernel_rfl) (by kernel_rfl) v xT w
theorem no78_132 (v : Value) (xT : TypeId) (w : World) : (Instr.typeAssert (.iface 78 v) xT 132 true).run Tryd.prog w = .ok (.tuple #[.nilIface, .bool false]) w := run_typeAssert_lacksB u132 (by kernel_rfl) (by kernel_rfl) v xT w
theorem no28_114 (v : Value) (xT : TypeId) (w : World) : (Instr.typeAssert (.iface 28 v) xT 114 true).run Tryd.prog w = .ok (.tuple #[.nilIface, .bool false]) w := run_typeAssert_lacksB u114 (by kernel_rfl) (by kernel_rfl) v xT w
theorem no40_114 (v : Value) (xT : TypeId) (w : World) : (Instr.typeAssert (.iface 40 v) xT 114 true).run Tryd.prog w = .ok (.tuple #[.nilIface, .bool false]) w := run_typeAssert_lacksB u114 (by kernel_rfl) (by kernel_rfl) v xT w
theorem no78_114 (v : Value) (xT : TypeId) (w : World) : (Instr.typeAssert (.iface 78 v) xT 114 true).run Tryd.prog w = .ok (.tuple #[.nilIface, .bool false]) w := run_typeAssert_lacksB u114 (by kernel_rfl) (by kernel_rfl) v xT w
theorem no28_81 (v : Value) (xT : TypeId) (w : World) : (Instr.typeAssert (.iface 28 v) xT 81 true).run Tryd.prog w = .ok (.tuple #[.nilIface, .bool false]) w := run_typeAssert_lacksB u81 (by kernel_rfl) (by kernel_rfl) v xT w
theorem no78_81 (v : Value) (xT : TypeId) (w : World) : (Instr.typeAssert (.iface 78 v) xT 81 true).run Tryd.prog w = .ok (.tuple #[.nilIface, .bool false]) w := run_typeAssert_lacksB u81 (by kernel_rfl) (by kernel_rfl) v xT w
theorem has40_81 (v : Value) (xT : TypeId) (w : World) : (Instr.typeAssert (.iface 40 v) xT 81 true).run Tryd.prog w = .ok (.tuple #[.iface 40 v, .bool true]) w := run_typeAssert_hasB u81 (by kernel_rfl) v xT w
theorem no28_117 (v : Value) (xT : TypeId) (w : World) : (Instr.typeAssert (.iface 28 v) xT 117 true).run Tryd.prog w = .ok (.tuple #[.nilIface, .bool false]) w := run_typeAssert_lacksB u117 (by kernel_rfl) (by kernel_rfl) v xT w
theorem no78_117 (v : Value) (xT : TypeId) (w : World) : (Instr.typeAssert (.iface 78 v) xT 117 true).run Tryd.prog w = .ok (.tuple #[.nilIface, .bool false]) w := run_typeAssert_lacksB u117 (by kernel_rfl) (by kernel_rfl) v xT w
/-! the entries that read or write memory -/
theorem rlm (z : Sem Value) (f : TypeId → Addr → Nat → Nat → Sem Value) (v : Value) : ReflectliteValue.method z f #[v] = (do match ← ReflectliteValue.parts v with | none => z | some (t, a, fl) => f t a fl (fl % 32)) := rfl
theorem parts72 (a : Addr) (w : World) : (ReflectliteValue.parts (.agg #[hnd 72, .pointer (some a), .int .u64 150])).run Tryd.prog w = .ok (some (72, a, 150)) w := by kernel_rfl
theorem parts100 (a : Addr) (w : World) : (ReflectliteValue.parts (.agg #[hnd 100, .pointer (some a), .int .u64 150])).run Tryd.prog w = .ok (some (100, a, 150)) w := by kernel_rfl
theorem isNil72 (a p : Addr) (W : World) (ha : W.cell? a = some (.pointer (some p))) : (ReflectliteValue.method (ReflectliteValue.valueError "reflectlite.Value.IsNil" 0) ReflectliteValue.isNil #[.agg #[hnd 72, .pointer (some a), .int .u64 150]]).run Tryd.prog W = .ok (.bool false) W := by
  rw [rlm]
  simp only [Sem.run_bind, parts72, Result.andThen]
  simp [ReflectliteValue.isNil, loadVar, isAgg, underlying, u72, ha, Result.andThen]
theorem isNil100 (a p : Addr) (W : World) (ha : W.cell? a = some (.pointer (some p))) : (ReflectliteValue.method (ReflectliteValue.valueError "reflectlite.Value.IsNil" 0) ReflectliteValue.isNil #[.agg #[hnd 100, .pointer (some a), .int .u64 150]]).run Tryd.prog W = .ok (.bool false) W := by
  rw [rlm]
  simp only [Sem.run_bind, parts100, Result.andThen]
  simp [ReflectliteValue.isNil, loadVar, isAgg, underlying, u100, ha, Result.andThen]
theorem elemOf72 (w : World) : (Rtype.elem? 72).run Tryd.prog w = .ok (some 28) w := by kernel_rfl
theorem elemOf100 (w : World) : (Rtype.elem? 100).run Tryd.prog w = .ok (some 40) w := by kernel_rfl
theorem mk28 (p : Addr) (w : World) : (ReflectliteValue.mk 28 p ReflectliteValue.flagAddr).run Tryd.prog w = .ok (.agg #[hnd 28, .pointer (some p), .int .u64 386]) w := by kernel_rfl
theorem mk40 (p : Addr) (w : World) : (ReflectliteValue.mk 40 p ReflectliteValue.flagAddr).run Tryd.prog w = .ok (.agg #[hnd 40, .pointer (some p), .int .u64 406]) w := by kernel_rfl
theorem elemV72 (a p : Addr) (W : World) (ha : W.cell? a = some (.pointer (some p))) : (ReflectliteValue.method (ReflectliteValue.valueError "reflectlite.Value.Elem" 0) ReflectliteValue.elem #[.agg #[hnd 72, .pointer (some a), .int .u64 150]]).run Tryd.prog W = .ok (.agg #[hnd 28, .pointer (some p), .int .u64 386]) W := by
  rw [rlm]
  simp only [Sem.run_bind, parts72, Result.andThen]
  simp [ReflectliteValue.elem, loadVar, isAgg, underlying, u72, ha, Result.andThen, elemOf72, mk28]
theorem elemV100 (a p : Addr) (W : World) (ha : W.cell? a = some (.pointer (some p))) : (ReflectliteValue.method (ReflectliteValue.valueError "reflectlite.Value.Elem" 0) ReflectliteValue.elem #[.agg #[hnd 100, .pointer (some a), .int .u64 150]]).run Tryd.prog W = .ok (.agg #[hnd 40, .pointer (some p), .int .u64 406]) W := by
  rw [rlm]
  simp only [Sem.run_bind, parts100, Result.andThen]
  simp [ReflectliteValue.elem, loadVar, isAgg, underlying, u100, ha, Result.andThen, elemOf100, mk40]
theorem rls (v x : Value) : ReflectliteValue.set #[v, x] = (do
    let (some (dst, a, fl), some (src, b, _)) := (← ReflectliteValue.parts v, ← ReflectliteValue.parts x)
      | unsupported (.noEntry "extern/(internal/reflectlite.Value).Set.zeroValue")
    if fl / ReflectliteValue.flagAddr % 2 == 0 then unsupported (.noEntry "extern/(internal/reflectlite.Value).Set.unaddressable")
    let val ← loadVar src b
    if ← Rtype.directlyAssignable dst src then storeVar dst a val
    else if ← Rtype.implements dst src then
      if (← Rtype.kind src) == 20 then
        match val with
        | .nilIface => unsupported (.noEntry "extern/reflectlite: a nil value of one interface type handed on as a value of another")
        | _ => storeVar dst a val
      else storeVar dst a (.iface src val)
    else panicString ("reflectlite.Set: value of type " ++ (← Rtype.spelt src) ++ " is not assignable to type " ++ (← Rtype.spelt dst))
    pure (.tuple #[])) := rfl
theorem parts28a (a : Addr) (w : World) : (ReflectliteValue.parts (.agg #[hnd 28, .pointer (some a), .int .u64 386])).run Tryd.prog w = .ok (some (28, a, 386)) w := by kernel_rfl
theorem parts28 (a : Addr) (w : World) : (ReflectliteValue.parts (.agg #[hnd 28, .pointer (some a), .int .u64 130])).run Tryd.prog w = .ok (some (28, a, 130)) w := by kernel_rfl
theorem parts40a (a : Addr) (w : World) : (ReflectliteValue.parts (.agg #[hnd 40, .pointer (some a), .int .u64 406])).run Tryd.prog w = .ok (some (40, a, 406)) w := by kernel_rfl
theorem parts40 (a : Addr) (w : World) : (ReflectliteValue.parts (.agg #[hnd 40, .pointer (some a), .int .u64 150])).run Tryd.prog w = .ok (some (40, a, 150)) w := by kernel_rfl
theorem direct28 (w : World) : (Rtype.directlyAssignable 28 28).run Tryd.prog w = .ok true w := by kernel_rfl
theorem direct40 (w : World) : (Rtype.directlyAssignable 40 40).run Tryd.prog w = .ok true w := by kernel_rfl
theorem set28 (ta b : Addr) (e : Int) (old : Value) (W : World) (hb : W.cell? b = some (.int .i64 e)) (ht : W.cell? ta = some old) (hf : W.frozen? ta = false) : (ReflectliteValue.set #[.agg #[hnd 28, .pointer (some ta), .int .u64 386], .agg #[hnd 28, .pointer (some b), .int .u64 130]]).run Tryd.prog W = .ok (.tuple #[]) (W.setCell ta (.int .i64 e)) := by
  rw [rls]
  simp only [Sem.run_bind, parts28a, parts28, Result.andThen]
  simp [ReflectliteValue.flagAddr, loadVar, isAgg, underlying, u28, hb, Result.andThen, direct28, storeVar, Value.cells, storeCells, Addr.add]
  rw [run_store Tryd.prog W ta _ _ (by rfl)]
  simp [ht, hf]
theorem set40 (ta b e : Addr) (old : Value) (W : World) (hb : W.cell? b = some (.pointer (some e))) (ht : W.cell? ta = some old) (hf : W.frozen? ta = false) : (ReflectliteValue.set #[.agg #[hnd 40, .pointer (some ta), .int .u64 406], .agg #[hnd 40, .pointer (some b), .int .u64 150]]).run Tryd.prog W = .ok (.tuple #[]) (W.setCell ta (.pointer (some e))) := by
  rw [rls]
  simp only [Sem.run_bind, parts40a, parts40, Result.andThen]
  simp [ReflectliteValue.flagAddr, loadVar, isAgg, underlying, u40, hb, Result.andThen, direct40, storeVar, Value.cells, storeCells, Addr.add]
  rw [run_store Tryd.prog W ta _ _ (by rfl)]
  simp [ht, hf]
end Go.Proofs.YtldfnfpinemedaaDoor
