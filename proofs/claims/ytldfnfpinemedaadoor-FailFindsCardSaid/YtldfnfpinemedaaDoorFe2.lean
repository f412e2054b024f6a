/- errors.As at the program's targets, machine's level. -/
import Derived.Test.YtldfnfpinemedaaDoorFe1
import Derived.Deep.LoopGhost
namespace Go.Proofs.YtldfnfpinemedaaDoor
open Go Go.RowKit Go.Extern.Stop Go.Stop Go.Extern
set_option linter.unusedSimpArgs false
set_option linter.unusedVariables false
set_option maxRecDepth 4000
theorem x40 (args : Array Value) (w : World) : (callFunc 40 args).run Tryd.prog w = (((ReflectliteType.typeOf) args).run Tryd.prog w).andThen fun v w' => .ok (.value v) w' := @run_callFunc_extern Tryd.prog 40 _ (ReflectliteType.typeOf) Tryd.func40 (by kernel_rfl) (by kernel_rfl) (by kernel_rfl) (by kernel_rfl) args w
theorem x54 (args : Array Value) (w : World) : (callFunc 54 args).run Tryd.prog w = ((((fun args => ReflectliteValue.unpack (args.getD 0 (.tuple #[])))) args).run Tryd.prog w).andThen fun v w' => .ok (.value v) w' := @run_callFunc_extern Tryd.prog 54 _ ((fun args => ReflectliteValue.unpack (args.getD 0 (.tuple #[])))) Tryd.func54 (by kernel_rfl) (by kernel_rfl) (by kernel_rfl) (by kernel_rfl) args w
theorem x55 (args : Array Value) (w : World) : (callFunc 55 args).run Tryd.prog w = ((((ReflectliteValue.methodAny (ReflectliteValue.valueError "reflectlite.Value.Type" 0) (fun t _ _ _ => ReflectliteType.toType t))) args).run Tryd.prog w).andThen fun v w' => .ok (.value v) w' := @run_callFunc_extern Tryd.prog 55 _ ((ReflectliteValue.methodAny (ReflectliteValue.valueError "reflectlite.Value.Type" 0) (fun t _ _ _ => ReflectliteType.toType t))) Tryd.func55 (by kernel_rfl) (by kernel_rfl) (by kernel_rfl) (by kernel_rfl) args w
theorem x56 (args : Array Value) (w : World) : (callFunc 56 args).run Tryd.prog w = ((((ReflectliteValue.method (ReflectliteValue.valueError "reflectlite.Value.IsNil" 0) ReflectliteValue.isNil)) args).run Tryd.prog w).andThen fun v w' => .ok (.value v) w' := @run_callFunc_extern Tryd.prog 56 _ ((ReflectliteValue.method (ReflectliteValue.valueError "reflectlite.Value.IsNil" 0) ReflectliteValue.isNil)) Tryd.func56 (by kernel_rfl) (by kernel_rfl) (by kernel_rfl) (by kernel_rfl) args w
theorem x69 (args : Array Value) (w : World) : (callFunc 69 args).run Tryd.prog w = ((((ReflectliteValue.method (ReflectliteValue.valueError "reflectlite.Value.Elem" 0) ReflectliteValue.elem)) args).run Tryd.prog w).andThen fun v w' => .ok (.value v) w' := @run_callFunc_extern Tryd.prog 69 _ ((ReflectliteValue.method (ReflectliteValue.valueError "reflectlite.Value.Elem" 0) ReflectliteValue.elem)) Tryd.func69 (by kernel_rfl) (by kernel_rfl) (by kernel_rfl) (by kernel_rfl) args w
theorem x70 (args : Array Value) (w : World) : (callFunc 70 args).run Tryd.prog w = (((ReflectliteValue.set) args).run Tryd.prog w).andThen fun v w' => .ok (.value v) w' := @run_callFunc_extern Tryd.prog 70 _ (ReflectliteValue.set) Tryd.func70 (by kernel_rfl) (by kernel_rfl) (by kernel_rfl) (by kernel_rfl) args w
theorem x120 (args : Array Value) (w : World) : (callFunc 120 args).run Tryd.prog w = ((((ReflectliteType.abiMethod fun t => do pure (.int .u8 (← Rtype.kind t)))) args).run Tryd.prog w).andThen fun v w' => .ok (.value v) w' := @run_callFunc_extern Tryd.prog 120 _ ((ReflectliteType.abiMethod fun t => do pure (.int .u8 (← Rtype.kind t)))) Tryd.func120 (by kernel_rfl) (by kernel_rfl) (by kernel_rfl) (by kernel_rfl) args w
theorem x128 (args : Array Value) (w : World) : (callFunc 128 args).run Tryd.prog w = ((((ReflectliteType.relation "AssignableTo" ReflectliteType.assignableTo)) args).run Tryd.prog w).andThen fun v w' => .ok (.value v) w' := @run_callFunc_extern Tryd.prog 128 _ ((ReflectliteType.relation "AssignableTo" ReflectliteType.assignableTo)) Tryd.func128 (by kernel_rfl) (by kernel_rfl) (by kernel_rfl) (by kernel_rfl) args w
theorem x129 (args : Array Value) (w : World) : (callFunc 129 args).run Tryd.prog w = ((((ReflectliteType.method (fun t => do Rtype.noPackHeld "Comparable" t; pure (.bool (← typeInfo t).comparable)))) args).run Tryd.prog w).andThen fun v w' => .ok (.value v) w' := @run_callFunc_extern Tryd.prog 129 _ ((ReflectliteType.method (fun t => do Rtype.noPackHeld "Comparable" t; pure (.bool (← typeInfo t).comparable)))) Tryd.func129 (by kernel_rfl) (by kernel_rfl) (by kernel_rfl) (by kernel_rfl) args w
theorem x130 (args : Array Value) (w : World) : (callFunc 130 args).run Tryd.prog w = ((((ReflectliteType.method ReflectliteType.elem)) args).run Tryd.prog w).andThen fun v w' => .ok (.value v) w' := @run_callFunc_extern Tryd.prog 130 _ ((ReflectliteType.method ReflectliteType.elem)) Tryd.func130 (by kernel_rfl) (by kernel_rfl) (by kernel_rfl) (by kernel_rfl) args w
theorem x131 (args : Array Value) (w : World) : (callFunc 131 args).run Tryd.prog w = ((((ReflectliteType.relation "Implements" ReflectliteType.implements_)) args).run Tryd.prog w).andThen fun v w' => .ok (.value v) w' := @run_callFunc_extern Tryd.prog 131 _ ((ReflectliteType.relation "Implements" ReflectliteType.implements_)) Tryd.func131 (by kernel_rfl) (by kernel_rfl) (by kernel_rfl) (by kernel_rfl) args w
/-- What was there is as it was. -/
structure Grows (w w' : World) : Prop where
  os : w'.os = w.os
  tape : w'.tape = w.tape
  output : w'.output = w.output
  size : w.heap.size ≤ w'.heap.size
  old : ∀ b, b < w.heap.size → w'.heap[b]? = w.heap[b]?
theorem Grows.refl (w : World) : Grows w w := ⟨rfl, rfl, rfl, Nat.le_refl _, fun _ _ => rfl⟩
theorem Grows.trans {w w1 w2 : World} (h : Grows w w1) (k : Grows w1 w2) : Grows w w2 := ⟨k.os.trans h.os, k.tape.trans h.tape, k.output.trans h.output, Nat.le_trans h.size k.size, fun b hb => (k.old b (Nat.lt_of_lt_of_le hb h.size)).trans (h.old b hb)⟩
theorem Grows.alloc (w : World) (o : Obj) : Grows w (w.alloc o) := ⟨rfl, rfl, rfl, by rw [World.size_alloc]; omega, fun b hb => by
  show (w.heap.push o)[b]? = w.heap[b]?
  rw [Array.getElem?_push, if_neg (by omega)]⟩
theorem Grows.cell {w w' : World} (h : Grows w w') {a : Addr} {v : Value} (hv : w.cell? a = some v) : w'.cell? a = some v := by
  have hlt : a.block < w.heap.size := by
    rcases Nat.lt_or_ge a.block w.heap.size with h | h
    · exact h
    · simp [World.cell?, Array.getElem?_eq_none h] at hv
  simp only [World.cell?] at hv ⊢
  rw [h.old _ hlt]
  exact hv
theorem Grows.frozen {w w' : World} (h : Grows w w') {a : Addr} {v : Value} (hv : w.cell? a = some v) : w'.frozen? a = w.frozen? a := by
  have hlt : a.block < w.heap.size := by
    rcases Nat.lt_or_ge a.block w.heap.size with h | h
    · exact h
    · simp [World.cell?, Array.getElem?_eq_none h] at hv
  simp only [World.frozen?]
  rw [h.old _ hlt]
def errT (w : World) : Prop := w.cell? ⟨0, 0, none⟩ = some (.iface 112 (.agg #[hnd 26]))
/-- errors.as at a **fail.Error target, the error a *fail.Error. -/
theorem as40_hit (e t b : Addr) (old : Value) (w : World) (hb : w.cell? b = some (.pointer (some t))) (ht0 : w.cell? t = some old) (hf0 : w.frozen? t = false) :
    Calls Tryd.prog 57 #[.iface 40 (.pointer (some e)), .iface 100 (.pointer (some t)), .agg #[hnd 100, .pointer (some b), .int .u64 150], .iface 112 (.agg #[hnd 40])] w fun ev w' => ev = .returned (.bool true) ∧ ∃ w1, Grows w w1 ∧ w' = w1.setCell t (.pointer (some e)) := by
  have h40 := x40
  have h54 := x54
  have h69 := x69
  have h70 := x70
  have h128 := x128
  have tO := typeOf40
  have mA := methodAssignableTo
  have a1 := asg40_40
  have v1 := valueOf40
  have g1 : Grows w (w.alloc (.cells #[hnd 100, .pointer (some b), .int .u64 150] 104)) := Grows.alloc _ _
  have el := elemV100 b t _ (g1.cell hb)
  have g2 := g1.trans (Grows.alloc _ (.cells #[.pointer (some e)] 40))
  have st := set40 t ⟨(w.alloc (.cells #[hnd 100, .pointer (some b), .int .u64 150] 104)).heap.size, 0, none⟩ e old _ (by rw [World.cell?_alloc_at _ _ _ _ (by rfl)]; rfl) (g2.cell ht0) (by rw [g2.frozen ht0]; exact hf0)
  rw [World.size_alloc] at st
  have G : Aside (Grows w ((w.alloc (.cells #[hnd 100, .pointer (some b), .int .u64 150] 104)).alloc (.cells #[.pointer (some e)] 40))) := g2
  clear g1 g2
  go_enter Tryd.func57, Tryd.ntmps57
  go_wp2
  refine wp_loop_rounds 1 ?_
  rw [rounds_succ]
  go_wp2
  go_ret
  exact ⟨rfl, _, G.out, rfl⟩
theorem as40_miss28 (n : Int) (t b : Addr) (w : World) :
    Calls Tryd.prog 57 #[.iface 28 (.int .i64 n), .iface 100 (.pointer (some t)), .agg #[hnd 100, .pointer (some b), .int .u64 150], .iface 112 (.agg #[hnd 40])] w fun ev w' => ev = .returned (.bool false) ∧ Grows w w' := by
  have h40 := x40
  have h128 := x128
  have tO := typeOf28
  have mA := methodAssignableTo
  have a1 := asg28_40
  have n1 := no28_132
  have n2 := no28_81
  have n3 := no28_117
  have G : Aside (Grows w (w.alloc (.cells #[hnd 100, .pointer (some b), .int .u64 150] 104))) := Grows.alloc _ _
  go_enter Tryd.func57, Tryd.ntmps57
  go_wp2
  refine wp_loop_rounds 1 ?_
  rw [rounds_succ]
  go_wp2
  go_ret
  exact ⟨rfl, G.out⟩
theorem as40_miss78 (v : Value) (t b : Addr) (w : World) :
    Calls Tryd.prog 57 #[.iface 78 v, .iface 100 (.pointer (some t)), .agg #[hnd 100, .pointer (some b), .int .u64 150], .iface 112 (.agg #[hnd 40])] w fun ev w' => ev = .returned (.bool false) ∧ Grows w w' := by
  have h40 := x40
  have h128 := x128
  have tO := typeOf78
  have mA := methodAssignableTo
  have a1 := asg78_40
  have n1 := no78_132
  have n2 := no78_81
  have n3 := no78_117
  have G : Aside (Grows w (w.alloc (.cells #[hnd 100, .pointer (some b), .int .u64 150] 104))) := Grows.alloc _ _
  go_enter Tryd.func57, Tryd.ntmps57
  go_wp2
  refine wp_loop_rounds 1 ?_
  rw [rounds_succ]
  go_wp2
  go_ret
  exact ⟨rfl, G.out⟩
end Go.Proofs.YtldfnfpinemedaaDoor
