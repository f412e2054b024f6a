/- What the building operations come to, each by the kernel. Written by bd.py. -/
import Derived.Test.YtldfnfpinemedaaBd
import Derived.KernelRfl
namespace Go.Proofs.Ytldfnfpinemedaa
open Go
set_option maxRecDepth 100000
theorem listOf2 (l : List Value) (h : l.length = 2) : ∃ x0 x1 : Value, l = [x0, x1] := by
  match l, h with
  | [x0, x1], _ => exact ⟨x0, x1, rfl⟩
theorem listOf3 (l : List Value) (h : l.length = 3) : ∃ x0 x1 x2 : Value, l = [x0, x1, x2] := by
  match l, h with
  | [x0, x1, x2], _ => exact ⟨x0, x1, x2, rfl⟩
theorem bda0 : ∀ (l0 : List Value) (_ : l0.length = 2), abuildS Try.prog 47 1 [(0, .agg l0.toArray)] = some (l0, 2) := by
  intro l0 hl0
  obtain ⟨x0_0, x0_1, rfl⟩ := listOf2 l0 hl0
  kernel_rfl
theorem bda1 : ∀ (l0 : List Value) (_ : l0.length = 2) (l1 : List Value) (_ : l1.length = 2), abuildS Try.prog 47 2 [(0, .agg l0.toArray), (1, .agg l1.toArray)] = some (l0 ++ (l1), 2) := by
  intro l0 hl0 l1 hl1
  obtain ⟨x0_0, x0_1, rfl⟩ := listOf2 l0 hl0
  obtain ⟨x1_0, x1_1, rfl⟩ := listOf2 l1 hl1
  kernel_rfl
theorem bda2 : ∀ (l0 : List Value) (_ : l0.length = 2), abuildS Try.prog 22 1 [(0, .agg l0.toArray)] = some (l0, 2) := by
  intro l0 hl0
  obtain ⟨x0_0, x0_1, rfl⟩ := listOf2 l0 hl0
  kernel_rfl
theorem bda3 : ∀ (l0 : List Value) (_ : l0.length = 3), abuildS Try.prog 38 1 [(0, .agg l0.toArray)] = some (l0, 3) := by
  intro l0 hl0
  obtain ⟨x0_0, x0_1, x0_2, rfl⟩ := listOf3 l0 hl0
  kernel_rfl
theorem bda4 : ∀ (l0 : List Value) (_ : l0.length = 3), abuildS Try.prog 40 1 [(0, .agg l0.toArray)] = some (l0, 3) := by
  intro l0 hl0
  obtain ⟨x0_0, x0_1, x0_2, rfl⟩ := listOf3 l0 hl0
  kernel_rfl
theorem bda5 : ∀ (l0 : List Value) (_ : l0.length = 2), abuildS Try.prog 53 1 [(0, .agg l0.toArray)] = some (l0, 2) := by
  intro l0 hl0
  obtain ⟨x0_0, x0_1, rfl⟩ := listOf2 l0 hl0
  kernel_rfl
theorem bda : (∀ (l0 : List Value) (_ : l0.length = 2), abuildS Try.prog 47 1 [(0, .agg l0.toArray)] = some (l0, 2)) ∧ (∀ (l0 : List Value) (_ : l0.length = 2) (l1 : List Value) (_ : l1.length = 2), abuildS Try.prog 47 2 [(0, .agg l0.toArray), (1, .agg l1.toArray)] = some (l0 ++ (l1), 2)) ∧ (∀ (l0 : List Value) (_ : l0.length = 2), abuildS Try.prog 22 1 [(0, .agg l0.toArray)] = some (l0, 2)) ∧ (∀ (l0 : List Value) (_ : l0.length = 3), abuildS Try.prog 38 1 [(0, .agg l0.toArray)] = some (l0, 3)) ∧ (∀ (l0 : List Value) (_ : l0.length = 3), abuildS Try.prog 40 1 [(0, .agg l0.toArray)] = some (l0, 3)) ∧ (∀ (l0 : List Value) (_ : l0.length = 2), abuildS Try.prog 53 1 [(0, .agg l0.toArray)] = some (l0, 2)) := ⟨bda0, bda1, bda2, bda3, bda4, bda5⟩
end Go.Proofs.Ytldfnfpinemedaa
