/- What the building operations come to, each by the kernel. Written by bd.py. -/
import Derived.Test.YtldfnfpinemedaaTy
import Derived.Test.YtldfnfpinemedaaC3
import Derived.KernelRfl
namespace Go.Proofs.Ytldfnfpinemedaa
open Go
set_option maxRecDepth 100000
theorem bd0 : abuildV Try.prog 67 [] = some (.agg #[.slice none 0 0, .bool false]) := by intros; kernel_rfl
theorem bd1 : ∀ (p0 : Option Addr) (p1 : Option Addr), abuildS Try.prog 68 2 [(0, .pointer p0), (1, .pointer p1)] = some ([.pointer p0, .pointer p1], 1) := by intros; kernel_rfl
theorem bd2 : ∀ (n0 : Int) (n1 : Int), abuildV Try.prog 33 [(0, .int .u32 n0), (1, .int .i64 n1)] = some (.agg #[.int .u32 n0, .int .i64 n1]) := by intros; kernel_rfl
theorem bd3 : ∀ (n0 : Int) (n1 : Int) (n2 : Int), abuildV Try.prog 44 [(0, .int .u32 n0), (1, .int .i64 n1), (2, .int .i64 n2)] = some (.agg #[.int .u32 n0, .int .i64 n1, .int .i64 n2]) := by intros; kernel_rfl
theorem bd4 : ∀ (n0 : Bool), abuildV Try.prog 67 [(1, .bool n0)] = some (.agg #[.slice none 0 0, .bool n0]) := by intros; kernel_rfl
theorem bd5 : ∀ (n0 : Int) (n1 : Int) (n2 : Int), abuildV Try.prog 83 [(0, .int .u32 n0), (1, .int .i64 n1), (2, .int .i64 n2)] = some (.agg #[.int .u32 n0, .int .i64 n1, .int .i64 n2]) := by intros; kernel_rfl
theorem bd6 : ∀ (n0 : ByteArray) (n1 : Int), abuildV Try.prog 57 [(0, .string n0), (1, .int .i64 n1)] = some (.agg #[.string n0, .int .i64 n1]) := by intros; kernel_rfl
theorem bd7 : ∀ (p0 : Option Addr) (n0 e0 : Nat) (p1 : Option Addr) (n1 e1 : Nat), abuildS Try.prog 109 2 [(0, .slice p0 n0 e0), (1, .slice p1 n1 e1)] = some ([.slice p0 n0 e0, .slice p1 n1 e1], 1) := by intros; kernel_rfl
theorem bd8 : ∀ (n0 : Int), abuildS Try.prog 71 1 [(0, .int .i64 n0)] = some ([.int .i64 n0], 1) := by intros; kernel_rfl
theorem bd9 : abuildS Try.prog 38 0 [] = some ([], 3) := by intros; kernel_rfl
theorem bd10 : ∀ (n0 : Int), abuildS Try.prog 85 1 [(0, .int .u8 n0)] = some ([.int .u8 n0], 1) := by intros; kernel_rfl
theorem bd11 : abuildS Try.prog 53 0 [] = some ([], 2) := by intros; kernel_rfl
theorem bd12 : ∀ (n0 : Int) (n1 : Int), abuildS Try.prog 71 2 [(0, .int .i64 n0), (1, .int .i64 n1)] = some ([.int .i64 n0, .int .i64 n1], 1) := by intros; kernel_rfl
theorem bd13 : abuildS Try.prog 85 0 [] = some ([], 1) := by intros; kernel_rfl
theorem bd : (abuildV Try.prog 67 [] = some (.agg #[.slice none 0 0, .bool false])) ∧ (∀ (p0 : Option Addr) (p1 : Option Addr), abuildS Try.prog 68 2 [(0, .pointer p0), (1, .pointer p1)] = some ([.pointer p0, .pointer p1], 1)) ∧ (∀ (n0 : Int) (n1 : Int), abuildV Try.prog 33 [(0, .int .u32 n0), (1, .int .i64 n1)] = some (.agg #[.int .u32 n0, .int .i64 n1])) ∧ (∀ (n0 : Int) (n1 : Int) (n2 : Int), abuildV Try.prog 44 [(0, .int .u32 n0), (1, .int .i64 n1), (2, .int .i64 n2)] = some (.agg #[.int .u32 n0, .int .i64 n1, .int .i64 n2])) ∧ (∀ (n0 : Bool), abuildV Try.prog 67 [(1, .bool n0)] = some (.agg #[.slice none 0 0, .bool n0])) ∧ (∀ (n0 : Int) (n1 : Int) (n2 : Int), abuildV Try.prog 83 [(0, .int .u32 n0), (1, .int .i64 n1), (2, .int .i64 n2)] = some (.agg #[.int .u32 n0, .int .i64 n1, .int .i64 n2])) ∧ (∀ (n0 : ByteArray) (n1 : Int), abuildV Try.prog 57 [(0, .string n0), (1, .int .i64 n1)] = some (.agg #[.string n0, .int .i64 n1])) ∧ (∀ (p0 : Option Addr) (n0 e0 : Nat) (p1 : Option Addr) (n1 e1 : Nat), abuildS Try.prog 109 2 [(0, .slice p0 n0 e0), (1, .slice p1 n1 e1)] = some ([.slice p0 n0 e0, .slice p1 n1 e1], 1)) ∧ (∀ (n0 : Int), abuildS Try.prog 71 1 [(0, .int .i64 n0)] = some ([.int .i64 n0], 1)) ∧ (abuildS Try.prog 38 0 [] = some ([], 3)) ∧ (∀ (n0 : Int), abuildS Try.prog 85 1 [(0, .int .u8 n0)] = some ([.int .u8 n0], 1)) ∧ (abuildS Try.prog 53 0 [] = some ([], 2)) ∧ (∀ (n0 : Int) (n1 : Int), abuildS Try.prog 71 2 [(0, .int .i64 n0), (1, .int .i64 n1)] = some ([.int .i64 n0, .int .i64 n1], 1)) ∧ (abuildS Try.prog 85 0 [] = some ([], 1)) := ⟨bd0, bd1, bd2, bd3, bd4, bd5, bd6, bd7, bd8, bd9, bd10, bd11, bd12, bd13⟩
end Go.Proofs.Ytldfnfpinemedaa
