/- What the building operations come to, each by the kernel. Written by bd.py. -/
import Derived.Test.YtfhbieimffjjkaaDoorBd
import Derived.KernelRfl
namespace Go.Proofs.YtfhbieimffjjkaaDoor
open Go
set_option maxRecDepth 100000
theorem listOf2 (l : List Value) (h : l.length = 2) : ∃ x0 x1 : Value, l = [x0, x1] := by
  match l, h with
  | [x0, x1], _ => exact ⟨x0, x1, rfl⟩
theorem listOf34 (l : List Value) (h : l.length = 34) : ∃ x0 x1 x2 x3 x4 x5 x6 x7 x8 x9 x10 x11 x12 x13 x14 x15 x16 x17 x18 x19 x20 x21 x22 x23 x24 x25 x26 x27 x28 x29 x30 x31 x32 x33 : Value, l = [x0, x1, x2, x3, x4, x5, x6, x7, x8, x9, x10, x11, x12, x13, x14, x15, x16, x17, x18, x19, x20, x21, x22, x23, x24, x25, x26, x27, x28, x29, x30, x31, x32, x33] := by
  rcases l with _ | ⟨x0, l⟩
  · exact absurd h (by simp)
  rcases l with _ | ⟨x1, l⟩
  · exact absurd h (by simp)
  rcases l with _ | ⟨x2, l⟩
  · exact absurd h (by simp)
  rcases l with _ | ⟨x3, l⟩
  · exact absurd h (by simp)
  rcases l with _ | ⟨x4, l⟩
  · exact absurd h (by simp)
  rcases l with _ | ⟨x5, l⟩
  · exact absurd h (by simp)
  rcases l with _ | ⟨x6, l⟩
  · exact absurd h (by simp)
  rcases l with _ | ⟨x7, l⟩
  · exact absurd h (by simp)
  rcases l with _ | ⟨x8, l⟩
  · exact absurd h (by simp)
  rcases l with _ | ⟨x9, l⟩
  · exact absurd h (by simp)
  rcases l with _ | ⟨x10, l⟩
  · exact absurd h (by simp)
  rcases l with _ | ⟨x11, l⟩
  · exact absurd h (by simp)
  rcases l with _ | ⟨x12, l⟩
  · exact absurd h (by simp)
  rcases l with _ | ⟨x13, l⟩
  · exact absurd h (by simp)
  rcases l with _ | ⟨x14, l⟩
  · exact absurd h (by simp)
  rcases l with _ | ⟨x15, l⟩
  · exact absurd h (by simp)
  rcases l with _ | ⟨x16, l⟩
  · exact absurd h (by simp)
  rcases l with _ | ⟨x17, l⟩
  · exact absurd h (by simp)
  rcases l with _ | ⟨x18, l⟩
  · exact absurd h (by simp)
  rcases l with _ | ⟨x19, l⟩
  · exact absurd h (by simp)
  rcases l with _ | ⟨x20, l⟩
  · exact absurd h (by simp)
  rcases l with _ | ⟨x21, l⟩
  · exact absurd h (by simp)
  rcases l with _ | ⟨x22, l⟩
  · exact absurd h (by simp)
  rcases l with _ | ⟨x23, l⟩
  · exact absurd h (by simp)
  rcases l with _ | ⟨x24, l⟩
  · exact absurd h (by simp)
  rcases l with _ | ⟨x25, l⟩
  · exact absurd h (by simp)
  rcases l with _ | ⟨x26, l⟩
  · exact absurd h (by simp)
  rcases l with _ | ⟨x27, l⟩
  · exact absurd h (by simp)
  rcases l with _ | ⟨x28, l⟩
  · exact absurd h (by simp)
  rcases l with _ | ⟨x29, l⟩
  · exact absurd h (by simp)
  rcases l with _ | ⟨x30, l⟩
  · exact absurd h (by simp)
  rcases l with _ | ⟨x31, l⟩
  · exact absurd h (by simp)
  rcases l with _ | ⟨x32, l⟩
  · exact absurd h (by simp)
  rcases l with _ | ⟨x33, l⟩
  · exact absurd h (by simp)
  rcases l with _ | ⟨y, l⟩
  · exact ⟨x0, x1, x2, x3, x4, x5, x6, x7, x8, x9, x10, x11, x12, x13, x14, x15, x16, x17, x18, x19, x20, x21, x22, x23, x24, x25, x26, x27, x28, x29, x30, x31, x32, x33, rfl⟩
  · exact absurd h (by simp)
theorem bda0 : ∀ (l0 : List Value) (_ : l0.length = 34) (l1 : List Value) (_ : l1.length = 34), abuildS Tryd.prog 70 2 [(0, .agg l0.toArray), (1, .agg l1.toArray)] = some (l0 ++ (l1), 34) := by
  intro l0 hl0 l1 hl1
  obtain ⟨x0_0, x0_1, x0_2, x0_3, x0_4, x0_5, x0_6, x0_7, x0_8, x0_9, x0_10, x0_11, x0_12, x0_13, x0_14, x0_15, x0_16, x0_17, x0_18, x0_19, x0_20, x0_21, x0_22, x0_23, x0_24, x0_25, x0_26, x0_27, x0_28, x0_29, x0_30, x0_31, x0_32, x0_33, rfl⟩ := listOf34 l0 hl0
  obtain ⟨x1_0, x1_1, x1_2, x1_3, x1_4, x1_5, x1_6, x1_7, x1_8, x1_9, x1_10, x1_11, x1_12, x1_13, x1_14, x1_15, x1_16, x1_17, x1_18, x1_19, x1_20, x1_21, x1_22, x1_23, x1_24, x1_25, x1_26, x1_27, x1_28, x1_29, x1_30, x1_31, x1_32, x1_33, rfl⟩ := listOf34 l1 hl1
  kernel_rfl
theorem bda1 : ∀ (l0 : List Value) (_ : l0.length = 34), abuildS Tryd.prog 70 1 [(0, .agg l0.toArray)] = some (l0, 34) := by
  intro l0 hl0
  obtain ⟨x0_0, x0_1, x0_2, x0_3, x0_4, x0_5, x0_6, x0_7, x0_8, x0_9, x0_10, x0_11, x0_12, x0_13, x0_14, x0_15, x0_16, x0_17, x0_18, x0_19, x0_20, x0_21, x0_22, x0_23, x0_24, x0_25, x0_26, x0_27, x0_28, x0_29, x0_30, x0_31, x0_32, x0_33, rfl⟩ := listOf34 l0 hl0
  kernel_rfl
theorem bda2 : ∀ (l0 : List Value) (_ : l0.length = 34), abuildS Tryd.prog 68 1 [(0, .agg l0.toArray)] = some (l0, 34) := by
  intro l0 hl0
  obtain ⟨x0_0, x0_1, x0_2, x0_3, x0_4, x0_5, x0_6, x0_7, x0_8, x0_9, x0_10, x0_11, x0_12, x0_13, x0_14, x0_15, x0_16, x0_17, x0_18, x0_19, x0_20, x0_21, x0_22, x0_23, x0_24, x0_25, x0_26, x0_27, x0_28, x0_29, x0_30, x0_31, x0_32, x0_33, rfl⟩ := listOf34 l0 hl0
  kernel_rfl
theorem bda3 : ∀ (l0 : List Value) (_ : l0.length = 2) (l1 : List Value) (_ : l1.length = 2) (l2 : List Value) (_ : l2.length = 2) (l3 : List Value) (_ : l3.length = 2) (l4 : List Value) (_ : l4.length = 2), abuildV Tryd.prog 136 [(0, .agg l0.toArray), (1, .agg l1.toArray), (2, .agg l2.toArray), (3, .agg l3.toArray), (4, .agg l4.toArray)] = some (.agg (l0 ++ (l1 ++ (l2 ++ (l3 ++ (l4 ++ (List.replicate 22 (Value.int .u8 0))))))).toArray) := by
  intro l0 hl0 l1 hl1 l2 hl2 l3 hl3 l4 hl4
  obtain ⟨x0_0, x0_1, rfl⟩ := listOf2 l0 hl0
  obtain ⟨x1_0, x1_1, rfl⟩ := listOf2 l1 hl1
  obtain ⟨x2_0, x2_1, rfl⟩ := listOf2 l2 hl2
  obtain ⟨x3_0, x3_1, rfl⟩ := listOf2 l3 hl3
  obtain ⟨x4_0, x4_1, rfl⟩ := listOf2 l4 hl4
  kernel_rfl
theorem bda : (∀ (l0 : List Value) (_ : l0.length = 34) (l1 : List Value) (_ : l1.length = 34), abuildS Tryd.prog 70 2 [(0, .agg l0.toArray), (1, .agg l1.toArray)] = some (l0 ++ (l1), 34)) ∧ (∀ (l0 : List Value) (_ : l0.length = 34), abuildS Tryd.prog 70 1 [(0, .agg l0.toArray)] = some (l0, 34)) ∧ (∀ (l0 : List Value) (_ : l0.length = 34), abuildS Tryd.prog 68 1 [(0, .agg l0.toArray)] = some (l0, 34)) ∧ (∀ (l0 : List Value) (_ : l0.length = 2) (l1 : List Value) (_ : l1.length = 2) (l2 : List Value) (_ : l2.length = 2) (l3 : List Value) (_ : l3.length = 2) (l4 : List Value) (_ : l4.length = 2), abuildV Tryd.prog 136 [(0, .agg l0.toArray), (1, .agg l1.toArray), (2, .agg l2.toArray), (3, .agg l3.toArray), (4, .agg l4.toArray)] = some (.agg (l0 ++ (l1 ++ (l2 ++ (l3 ++ (l4 ++ (List.replicate 22 (Value.int .u8 0))))))).toArray)) := ⟨bda0, bda1, bda2, bda3⟩
end Go.Proofs.YtfhbieimffjjkaaDoor
