/- What the building operations come to, each by the kernel. Written by bd.py. -/
import Derived.Test.YtfdpmffcdafmgaaDoorTy
import Derived.Test.YtfdpmffcdafmgaaDoorC3
import Derived.KernelRfl
namespace Go.Proofs.YtfdpmffcdafmgaaDoor
open Go
set_option maxRecDepth 100000
theorem bd0 : ∀ (n0 : ByteArray) (n1 : ByteArray), abuildV Tryd.prog 48 [(0, .string n0), (1, .string n1)] = some (.agg #[.string n0, .string n1]) := by intros; kernel_rfl
theorem bd1 : ∀ (n0 : Int), abuildS Tryd.prog 23 1 [(0, .int .u8 n0)] = some ([.int .u8 n0], 1) := by intros; kernel_rfl
theorem bd2 : ∀ (n0 : ByteArray) (n1 : ByteArray), abuildV Tryd.prog 42 [(0, .string n0), (1, .string n1)] = some (.agg #[.string n0, .string n1]) := by intros; kernel_rfl
theorem bd3 : ∀ (n0 : ByteArray), abuildS Tryd.prog 53 1 [(0, .string n0)] = some ([.string n0], 1) := by intros; kernel_rfl
theorem bd4 : ∀ (p0 : Option Addr) (n0 e0 : Nat), abuildV Tryd.prog 79 [(0, .slice p0 n0 e0)] = some (.agg #[.slice p0 n0 e0, .int .i64 0]) := by intros; kernel_rfl
theorem bd5 : abuildS Tryd.prog 29 0 [] = some ([], 2) := by intros; kernel_rfl
theorem bd6 : abuildS Tryd.prog 23 0 [] = some ([], 1) := by intros; kernel_rfl
theorem bd7 : ∀ (n0 : Int) (n1 : Int), abuildV Tryd.prog 121 [(0, .int .u8 n0), (1, .int .u8 n1)] = some (.agg #[.int .u8 n0, .int .u8 n1]) := by intros; kernel_rfl
theorem bd : (∀ (n0 : ByteArray) (n1 : ByteArray), abuildV Tryd.prog 48 [(0, .string n0), (1, .string n1)] = some (.agg #[.string n0, .string n1])) ∧ (∀ (n0 : Int), abuildS Tryd.prog 23 1 [(0, .int .u8 n0)] = some ([.int .u8 n0], 1)) ∧ (∀ (n0 : ByteArray) (n1 : ByteArray), abuildV Tryd.prog 42 [(0, .string n0), (1, .string n1)] = some (.agg #[.string n0, .string n1])) ∧ (∀ (n0 : ByteArray), abuildS Tryd.prog 53 1 [(0, .string n0)] = some ([.string n0], 1)) ∧ (∀ (p0 : Option Addr) (n0 e0 : Nat), abuildV Tryd.prog 79 [(0, .slice p0 n0 e0)] = some (.agg #[.slice p0 n0 e0, .int .i64 0])) ∧ (abuildS Tryd.prog 29 0 [] = some ([], 2)) ∧ (abuildS Tryd.prog 23 0 [] = some ([], 1)) ∧ (∀ (n0 : Int) (n1 : Int), abuildV Tryd.prog 121 [(0, .int .u8 n0), (1, .int .u8 n1)] = some (.agg #[.int .u8 n0, .int .u8 n1])) := ⟨bd0, bd1, bd2, bd3, bd4, bd5, bd6, bd7⟩
end Go.Proofs.YtfdpmffcdafmgaaDoor
