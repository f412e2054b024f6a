/- errors.As, errors.Unwrap, machine's level. -/
import Derived.Test.YtldfnfpinemedaaDoorFe4
namespace Go.Proofs.YtldfnfpinemedaaDoor
open Go Go.RowKit Go.Extern.Stop Go.Stop Go.Extern
set_option linter.unusedSimpArgs false
set_option linter.unusedVariables false
set_option maxRecDepth 4000
/-- The world behind the first steps of errors.As. -/
def asW (w : World) (T : TypeId) (t : Addr) : World := (w.alloc (.cells #[.pointer (some t)] T)).alloc (.cells #[hnd T, .pointer (some ⟨w.heap.size, 0, none⟩), .int .u64 150] 104)
theorem asW_grows (w : World) (T : TypeId) (t : Addr) : Grows w (asW w T t) := (Grows.alloc _ _).trans (Grows.alloc _ _)
theorem asW_cell (w : World) (T : TypeId) (t : Addr) : (asW w T t).cell? ⟨w.heap.size, 0, none⟩ = some (.pointer (some t)) := by
  unfold asW
  rw [World.cell?_alloc_lt _ _ ⟨w.heap.size, 0, none⟩ (by simp)]
  simp
theorem eAs28_hit (n k : Nat) (x : Value) (e : Int) (t : Addr) (old : Value) (w : World) (hg : errT w) (ht0 : w.cell? t = some old) (hf0 : w.frozen? t = false) (hc : ChW w n (.iface k x) (.iface 28 (.int .i64 e))) :
    Calls Tryd.prog 37 #[.iface k x, .iface 72 (.pointer (some t))] w fun ev w' => ev = .returned (.bool true) ∧ ∃ w1, Grows w w1 ∧ w' = w1.setCell t (.int .i64 e) := by
  have h54 := x54
  have h55 := x55
  have h56 := x56
  have h120 := x120
  have h130 := x130
  have h131 := x131
  have v1 := valueOf72
  have ty := type72
  have mK := methodKind
  have mE := methodElem
  have mI := methodImplements
  have k1 := kind72
  have k2 := kind28
  have e1 := elem72
  have i1 := implements28
  have g := asW_grows w 72 t
  have nl := isNil72 ⟨w.heap.size, 0, none⟩ t (asW w 72 t) (asW_cell w 72 t)
  have hg2 := g.cell hg
  have A : Aside (Grows w (asW w 72 t) ∧ (asW w 72 t).cell? ⟨w.heap.size, 0, none⟩ = some (.pointer (some t)) ∧ (asW w 72 t).cell? t = some old ∧ (asW w 72 t).frozen? t = false ∧ ChW (asW w 72 t) n (.iface k x) (.iface 28 (.int .i64 e))) := ⟨g, asW_cell w 72 t, g.cell ht0, by rw [g.frozen ht0]; exact hf0, hc.grows g⟩
  clear g hg ht0 hf0 hc
  unfold asW at nl hg2
  go_enter Tryd.func37, Tryd.ntmps37
  go_wp2_with fail
  refine (as28_hit n _ e t ⟨w.heap.size, 0, none⟩ old (asW w 72 t) A.out.2.1 A.out.2.2.1 A.out.2.2.2.1 A.out.2.2.2.2).mono ?_
  rintro ev w' ⟨rfl, w1, g1, rfl⟩
  go_wp2
  go_ret
  exact ⟨rfl, w1, A.out.1.trans g1, rfl⟩
theorem eAs28_miss (n k : Nat) (x z : Value) (t : Addr) (w : World) (hg : errT w) (hc : ChW w n (.iface k x) (.iface 78 z)) :
    Calls Tryd.prog 37 #[.iface k x, .iface 72 (.pointer (some t))] w fun ev w' => ev = .returned (.bool false) ∧ Grows w w' := by
  have h54 := x54
  have h55 := x55
  have h56 := x56
  have h120 := x120
  have h130 := x130
  have h131 := x131
  have v1 := valueOf72
  have ty := type72
  have mK := methodKind
  have mE := methodElem
  have mI := methodImplements
  have k1 := kind72
  have k2 := kind28
  have e1 := elem72
  have i1 := implements28
  have g := asW_grows w 72 t
  have nl := isNil72 ⟨w.heap.size, 0, none⟩ t (asW w 72 t) (asW_cell w 72 t)
  have hg2 := g.cell hg
  have A : Aside (Grows w (asW w 72 t) ∧ (asW w 72 t).cell? ⟨w.heap.size, 0, none⟩ = some (.pointer (some t)) ∧ ChW (asW w 72 t) n (.iface k x) (.iface 78 z)) := ⟨g, asW_cell w 72 t, hc.grows g⟩
  clear g hg hc
  unfold asW at nl hg2
  go_enter Tryd.func37, Tryd.ntmps37
  go_wp2_with fail
  refine (as28_miss n _ z t ⟨w.heap.size, 0, none⟩ (asW w 72 t) A.out.2.2).mono ?_
  rintro ev w' ⟨rfl, g1⟩
  go_wp2
  go_ret
  exact ⟨rfl, A.out.1.trans g1⟩
theorem eAs40_hit (e : Addr) (t : Addr) (old : Value) (w : World) (hg : errT w) (ht0 : w.cell? t = some old) (hf0 : w.frozen? t = false) :
    Calls Tryd.prog 37 #[.iface 40 (.pointer (some e)), .iface 100 (.pointer (some t))] w fun ev w' => ev = .returned (.bool true) ∧ ∃ w1, Grows w w1 ∧ w' = w1.setCell t (.pointer (some e)) := by
  have h54 := x54
  have h55 := x55
  have h56 := x56
  have h120 := x120
  have h130 := x130
  have h131 := x131
  have v1 := valueOf100
  have ty := type100
  have mK := methodKind
  have mE := methodElem
  have mI := methodImplements
  have k1 := kind100
  have k2 := kind40
  have e1 := elem100
  have i1 := implements40
  have g := asW_grows w 100 t
  have nl := isNil100 ⟨w.heap.size, 0, none⟩ t (asW w 100 t) (asW_cell w 100 t)
  have hg2 := g.cell hg
  have A : Aside (Grows w (asW w 100 t) ∧ (asW w 100 t).cell? ⟨w.heap.size, 0, none⟩ = some (.pointer (some t)) ∧ (asW w 100 t).cell? t = some old ∧ (asW w 100 t).frozen? t = false) := ⟨g, asW_cell w 100 t, g.cell ht0, by rw [g.frozen ht0]; exact hf0⟩
  clear g hg ht0 hf0
  unfold asW at nl hg2
  go_enter Tryd.func37, Tryd.ntmps37
  go_wp2_with fail
  refine (as40_hit e t ⟨w.heap.size, 0, none⟩ old (asW w 100 t) A.out.2.1 A.out.2.2.1 A.out.2.2.2).mono ?_
  rintro ev w' ⟨rfl, w1, g1, rfl⟩
  go_wp2
  go_ret
  exact ⟨rfl, w1, A.out.1.trans g1, rfl⟩
theorem eAs40_miss28 (e : Int) (t : Addr) (w : World) (hg : errT w) :
    Calls Tryd.prog 37 #[.iface 28 (.int .i64 e), .iface 100 (.pointer (some t))] w fun ev w' => ev = .returned (.bool false) ∧ Grows w w' := by
  have h54 := x54
  have h55 := x55
  have h56 := x56
  have h120 := x120
  have h130 := x130
  have h131 := x131
  have v1 := valueOf100
  have ty := type100
  have mK := methodKind
  have mE := methodElem
  have mI := methodImplements
  have k1 := kind100
  have k2 := kind40
  have e1 := elem100
  have i1 := implements40
  have g := asW_grows w 100 t
  have nl := isNil100 ⟨w.heap.size, 0, none⟩ t (asW w 100 t) (asW_cell w 100 t)
  have hg2 := g.cell hg
  have A : Aside (Grows w (asW w 100 t) ∧ (asW w 100 t).cell? ⟨w.heap.size, 0, none⟩ = some (.pointer (some t))) := ⟨g, asW_cell w 100 t⟩
  clear g hg
  unfold asW at nl hg2
  go_enter Tryd.func37, Tryd.ntmps37
  go_wp2_with fail
  refine (as40_miss28 e t ⟨w.heap.size, 0, none⟩ (asW w 100 t)).mono ?_
  rintro ev w' ⟨rfl, g1⟩
  go_wp2
  go_ret
  exact ⟨rfl, A.out.1.trans g1⟩
theorem eAs40_miss78 (z : Value) (t : Addr) (w : World) (hg : errT w) :
    Calls Tryd.prog 37 #[.iface 78 z, .iface 100 (.pointer (some t))] w fun ev w' => ev = .returned (.bool false) ∧ Grows w w' := by
  have h54 := x54
  have h55 := x55
  have h56 := x56
  have h120 := x120
  have h130 := x130
  have h131 := x131
  have v1 := valueOf100
  have ty := type100
  have mK := methodKind
  have mE := methodElem
  have mI := methodImplements
  have k1 := kind100
  have k2 := kind40
  have e1 := elem100
  have i1 := implements40
  have g := asW_grows w 100 t
  have nl := isNil100 ⟨w.heap.size, 0, none⟩ t (asW w 100 t) (asW_cell w 100 t)
  have hg2 := g.cell hg
  have A : Aside (Grows w (asW w 100 t) ∧ (asW w 100 t).cell? ⟨w.heap.size, 0, none⟩ = some (.pointer (some t))) := ⟨g, asW_cell w 100 t⟩
  clear g hg
  unfold asW at nl hg2
  go_enter Tryd.func37, Tryd.ntmps37
  go_wp2_with fail
  refine (as40_miss78 z t ⟨w.heap.size, 0, none⟩ (asW w 100 t)).mono ?_
  rintro ev w' ⟨rfl, g1⟩
  go_wp2
  go_ret
  exact ⟨rfl, A.out.1.trans g1⟩
theorem eUnwrap (a o : Nat) (u : Value) (w : World) (hu : w.cell? ⟨a, o + 2, none⟩ = some u) :
    Calls Tryd.prog 23 #[.iface 40 (.pointer (some ⟨a, o, none⟩))] w fun ev w' => ev = .returned u ∧ w' = w := by
  have mU := methodUnwrap
  have n2 := has40_81
  go_enter Tryd.func23, Tryd.ntmps23
  go_wp2
  go_ret
  exact ⟨rfl, rfl⟩
end Go.Proofs.YtldfnfpinemedaaDoor
