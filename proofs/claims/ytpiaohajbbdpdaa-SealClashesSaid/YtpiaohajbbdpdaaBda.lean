/- What the building operations come to, each by the kernel. Written by bd.py. -/
import Derived.Test.YtpiaohajbbdpdaaBd
import Derived.KernelRfl
namespace Go.Proofs.Ytpiaohajbbdpdaa
open Go
set_option maxRecDepth 100000
theorem listOf32 (l : List Value) (h : l.length = 32) : ∃ x0 x1 x2 x3 x4 x5 x6 x7 x8 x9 x10 x11 x12 x13 x14 x15 x16 x17 x18 x19 x20 x21 x22 x23 x24 x25 x26 x27 x28 x29 x30 x31 : Value, l = [x0, x1, x2, x3, x4, x5, x6, x7, x8, x9, x10, x11, x12, x13, x14, x15, x16, x17, x18, x19, x20, x21, x22, x23, x24, x25, x26, x27, x28, x29, x30, x31] := by
  rcases l with _ | ⟨x0, l⟩
  · exact absurd h (by simp)
  rcases l with _ | ⟨x1, l⟩
  · exact absurd h (by simp)
  rcases l with _ | ⟨x2, l⟩
  · exact absurd h (by simp)
  rcases l with _ | ⟨x3, l⟩
  · exact absurd h (by simp)
  rcases l with _ | ⟨x4, l⟩
  · exact absurd h (by simp)
  rcases l with _ | ⟨x5, l⟩
  · exact absurd h (by simp)
  rcases l with _ | ⟨x6, l⟩
  · exact absurd h (by simp)
  rcases l with _ | ⟨x7, l⟩
  · exact absurd h (by simp)
  rcases l with _ | ⟨x8, l⟩
  · exact absurd h (by simp)
  rcases l with _ | ⟨x9, l⟩
  · exact absurd h (by simp)
  rcases l with _ | ⟨x10, l⟩
  · exact absurd h (by simp)
  rcases l with _ | ⟨x11, l⟩
  · exact absurd h (by simp)
  rcases l with _ | ⟨x12, l⟩
  · exact absurd h (by simp)
  rcases l with _ | ⟨x13, l⟩
  · exact absurd h (by simp)
  rcases l with _ | ⟨x14, l⟩
  · exact absurd h (by simp)
  rcases l with _ | ⟨x15, l⟩
  · exact absurd h (by simp)
  rcases l with _ | ⟨x16, l⟩
  · exact absurd h (by simp)
  rcases l with _ | ⟨x17, l⟩
  · exact absurd h (by simp)
  rcases l with _ | ⟨x18, l⟩
  · exact absurd h (by simp)
  rcases l with _ | ⟨x19, l⟩
  · exact absurd h (by simp)
  rcases l with _ | ⟨x20, l⟩
  · exact absurd h (by simp)
  rcases l with _ | ⟨x21, l⟩
  · exact absurd h (by simp)
  rcases l with _ | ⟨x22, l⟩
  · exact absurd h (by simp)
  rcases l with _ | ⟨x23, l⟩
  · exact absurd h (by simp)
  rcases l with _ | ⟨x24, l⟩
  · exact absurd h (by simp)
  rcases l with _ | ⟨x25, l⟩
  · exact absurd h (by simp)
  rcases l with _ | ⟨x26, l⟩
  · exact absurd h (by simp)
  rcases l with _ | ⟨x27, l⟩
  · exact absurd h (by simp)
  rcases l with _ | ⟨x28, l⟩
  · exact absurd h (by simp)
  rcases l with _ | ⟨x29, l⟩
  · exact absurd h (by simp)
  rcases l with _ | ⟨x30, l⟩
  · exact absurd h (by simp)
  rcases l with _ | ⟨x31, l⟩
  · exact absurd h (by simp)
  rcases l with _ | ⟨y, l⟩
  · exact ⟨x0, x1, x2, x3, x4, x5, x6, x7, x8, x9, x10, x11, x12, x13, x14, x15, x16, x17, x18, x19, x20, x21, x22, x23, x24, x25, x26, x27, x28, x29, x30, x31, rfl⟩
  · exact absurd h (by simp)
theorem bda0 : ∀ (n0 : Int) (n1 : Int) (l2 : List Value) (_ : l2.length = 32), abuildV Try.prog 35 [(0, .int .i64 n0), (1, .int .u32 n1), (2, .agg l2.toArray)] = some (.agg ([Value.int .i64 n0] ++ ([Value.int .u32 n1] ++ (l2))).toArray) := by
  intro n0 n1 l2 hl2
  obtain ⟨x2_0, x2_1, x2_2, x2_3, x2_4, x2_5, x2_6, x2_7, x2_8, x2_9, x2_10, x2_11, x2_12, x2_13, x2_14, x2_15, x2_16, x2_17, x2_18, x2_19, x2_20, x2_21, x2_22, x2_23, x2_24, x2_25, x2_26, x2_27, x2_28, x2_29, x2_30, x2_31, rfl⟩ := listOf32 l2 hl2
  kernel_rfl
theorem bda1 : ∀ (n0 : Int) (n1 : Int) (l2 : List Value) (_ : l2.length = 32), abuildV Try.prog 38 [(0, .int .i64 n0), (1, .int .u32 n1), (2, .agg l2.toArray)] = some (.agg ([Value.int .i64 n0] ++ ([Value.int .u32 n1] ++ (l2))).toArray) := by
  intro n0 n1 l2 hl2
  obtain ⟨x2_0, x2_1, x2_2, x2_3, x2_4, x2_5, x2_6, x2_7, x2_8, x2_9, x2_10, x2_11, x2_12, x2_13, x2_14, x2_15, x2_16, x2_17, x2_18, x2_19, x2_20, x2_21, x2_22, x2_23, x2_24, x2_25, x2_26, x2_27, x2_28, x2_29, x2_30, x2_31, rfl⟩ := listOf32 l2 hl2
  kernel_rfl
theorem bda2 : ∀ (l0 : List Value) (_ : l0.length = 32), abuildS Try.prog 74 1 [(0, .agg l0.toArray)] = some (l0, 32) := by
  intro l0 hl0
  obtain ⟨x0_0, x0_1, x0_2, x0_3, x0_4, x0_5, x0_6, x0_7, x0_8, x0_9, x0_10, x0_11, x0_12, x0_13, x0_14, x0_15, x0_16, x0_17, x0_18, x0_19, x0_20, x0_21, x0_22, x0_23, x0_24, x0_25, x0_26, x0_27, x0_28, x0_29, x0_30, x0_31, rfl⟩ := listOf32 l0 hl0
  kernel_rfl
theorem bda : (∀ (n0 : Int) (n1 : Int) (l2 : List Value) (_ : l2.length = 32), abuildV Try.prog 35 [(0, .int .i64 n0), (1, .int .u32 n1), (2, .agg l2.toArray)] = some (.agg ([Value.int .i64 n0] ++ ([Value.int .u32 n1] ++ (l2))).toArray)) ∧ (∀ (n0 : Int) (n1 : Int) (l2 : List Value) (_ : l2.length = 32), abuildV Try.prog 38 [(0, .int .i64 n0), (1, .int .u32 n1), (2, .agg l2.toArray)] = some (.agg ([Value.int .i64 n0] ++ ([Value.int .u32 n1] ++ (l2))).toArray)) ∧ (∀ (l0 : List Value) (_ : l0.length = 32), abuildS Try.prog 74 1 [(0, .agg l0.toArray)] = some (l0, 32)) := ⟨bda0, bda1, bda2⟩
end Go.Proofs.Ytpiaohajbbdpdaa
