/- What the building operations come to, each by the kernel. Written by bd.py. -/
import Derived.Test.YtldfnfpinemedaaDoorBd
import Derived.KernelRfl
namespace Go.Proofs.YtldfnfpinemedaaDoor
open Go
set_option maxRecDepth 100000
theorem listOf2 (l : List Value) (h : l.length = 2) : ∃ x0 x1 : Value, l = [x0, x1] := by
  match l, h with
  | [x0, x1], _ => exact ⟨x0, x1, rfl⟩
theorem bda0 : ∀ (l0 : List Value) (_ : l0.length = 2), abuildS Tryd.prog 54 1 [(0, .agg l0.toArray)] = some (l0, 2) := by
  intro l0 hl0
  obtain ⟨x0_0, x0_1, rfl⟩ := listOf2 l0 hl0
  kernel_rfl
theorem bda1 : ∀ (l0 : List Value) (_ : l0.length = 2), abuildS Tryd.prog 49 1 [(0, .agg l0.toArray)] = some (l0, 2) := by
  intro l0 hl0
  obtain ⟨x0_0, x0_1, rfl⟩ := listOf2 l0 hl0
  kernel_rfl
theorem bda2 : ∀ (l0 : List Value) (_ : l0.length = 2) (l1 : List Value) (_ : l1.length = 2) (l2 : List Value) (_ : l2.length = 2) (l3 : List Value) (_ : l3.length = 2) (l4 : List Value) (_ : l4.length = 2), abuildV Tryd.prog 171 [(0, .agg l0.toArray), (1, .agg l1.toArray), (2, .agg l2.toArray), (3, .agg l3.toArray), (4, .agg l4.toArray)] = some (.agg (l0 ++ (l1 ++ (l2 ++ (l3 ++ (l4 ++ (List.replicate 22 (Value.int .u8 0))))))).toArray) := by
  intro l0 hl0 l1 hl1 l2 hl2 l3 hl3 l4 hl4
  obtain ⟨x0_0, x0_1, rfl⟩ := listOf2 l0 hl0
  obtain ⟨x1_0, x1_1, rfl⟩ := listOf2 l1 hl1
  obtain ⟨x2_0, x2_1, rfl⟩ := listOf2 l2 hl2
  obtain ⟨x3_0, x3_1, rfl⟩ := listOf2 l3 hl3
  obtain ⟨x4_0, x4_1, rfl⟩ := listOf2 l4 hl4
  kernel_rfl
theorem bda : (∀ (l0 : List Value) (_ : l0.length = 2), abuildS Tryd.prog 54 1 [(0, .agg l0.toArray)] = some (l0, 2)) ∧ (∀ (l0 : List Value) (_ : l0.length = 2), abuildS Tryd.prog 49 1 [(0, .agg l0.toArray)] = some (l0, 2)) ∧ (∀ (l0 : List Value) (_ : l0.length = 2) (l1 : List Value) (_ : l1.length = 2) (l2 : List Value) (_ : l2.length = 2) (l3 : List Value) (_ : l3.length = 2) (l4 : List Value) (_ : l4.length = 2), abuildV Tryd.prog 171 [(0, .agg l0.toArray), (1, .agg l1.toArray), (2, .agg l2.toArray), (3, .agg l3.toArray), (4, .agg l4.toArray)] = some (.agg (l0 ++ (l1 ++ (l2 ++ (l3 ++ (l4 ++ (List.replicate 22 (Value.int .u8 0))))))).toArray)) := ⟨bda0, bda1, bda2⟩
end Go.Proofs.YtldfnfpinemedaaDoor
