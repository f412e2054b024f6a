/- Whole numbers of set sizes as the walks meet them: values as UInt8, UInt32, UInt64, and as natural numbers where the kind is i64. -/
import Derived.Test.YtldfnfpinemedaaDoorA4
import Derived.Laws.BitsAllLaws
import Derived.Laws.Bits64
namespace Go.Proofs.YtldfnfpinemedaaDoor
open Go Go.RowKit
set_option linter.unusedSimpArgs false
set_option linter.unusedVariables false
set_option maxRecDepth 4000
abbrev U8 (x : UInt8) : Value := .int .u8 (x.toNat : Int)
abbrev U16 (x : UInt16) : Value := .int .u16 (x.toNat : Int)
abbrev U32 (x : UInt32) : Value := .int .u32 (x.toNat : Int)
abbrev U64 (x : UInt64) : Value := .int .u64 (x.toNat : Int)
abbrev I64 (n : Nat) : Value := .int .i64 (n : Int)
theorem lit_cast (n : Nat) : (no_index (OfNat.ofNat n) : Int) = ((n : Nat) : Int) := rfl
theorem wrap8 (n : Int) : IntKind.u8.wrap n = n % 256 := by simp [IntKind.wrap, IntKind.bits, IntKind.signed]
theorem lt8 (x : UInt8) : x.toNat < 256 := x.toNat_lt
theorem lit8 (n : Nat) (h : n < 256) : ((OfNat.ofNat n : UInt8)).toNat = n := by show (UInt8.ofNat n).toNat = n; rw [UInt8.toNat_ofNat']; exact Nat.mod_eq_of_lt h
theorem add8 (x y : Nat) : ((UInt8.ofNat x + UInt8.ofNat y).toNat : Int) = ((x : Int) + y) % 256 := by rw [UInt8.toNat_add, UInt8.toNat_ofNat', UInt8.toNat_ofNat']; omega
theorem wadd8 (x y : UInt8) : IntKind.u8.wrap ((x.toNat : Int) + (y.toNat : Int)) = ((x + y).toNat : Int) := by rw [wrap8, UInt8.toNat_add]; omega
theorem wsub8 (x y : UInt8) : IntKind.u8.wrap ((x.toNat : Int) - (y.toNat : Int)) = ((x - y).toNat : Int) := by rw [wrap8, UInt8.toNat_sub]; have := lt8 x; have := lt8 y; omega
theorem wmul8 (x y : UInt8) : IntKind.u8.wrap ((x.toNat : Int) * (y.toNat : Int)) = ((x * y).toNat : Int) := by rw [wrap8, UInt8.toNat_mul, show 2 ^ 8 = 256 from rfl, Int.natCast_emod, Int.natCast_mul]; rfl
theorem wid8 (x : UInt8) : IntKind.u8.wrap (x.toNat : Int) = (x.toNat : Int) := by rw [wrap8]; have := lt8 x; omega
theorem wand8 (x y : UInt8) : bits .and .u8 (x.toNat : Int) (y.toNat : Int) = ((x &&& y).toNat : Int) := by rw [UInt8.toNat_and, u8_and_nat _ _ (lt8 x) (lt8 y)]
theorem wor8 (x y : UInt8) : bits .or .u8 (x.toNat : Int) (y.toNat : Int) = ((x ||| y).toNat : Int) := by rw [UInt8.toNat_or, u8_or_nat _ _ (lt8 x) (lt8 y)]
theorem wxor8 (x y : UInt8) : bits .xor .u8 (x.toNat : Int) (y.toNat : Int) = ((x ^^^ y).toNat : Int) := by rw [UInt8.toNat_xor, u8_xor_nat _ _ (lt8 x) (lt8 y)]
theorem aadd8 : ∀ x y : UInt8, aint .add .u8 (x.toNat : Int) (y.toNat : Int) = some (.int .u8 ((x + y).toNat : Int)) := fun x y => by rw [aint, wadd8]
theorem aadd8l : ∀ (n : Nat) (y : UInt8), n < 256 → aint .add .u8 (no_index (OfNat.ofNat n)) (y.toNat : Int) = some (.int .u8 (((OfNat.ofNat n : UInt8) + y).toNat : Int)) := fun n y h => by have := aadd8 (OfNat.ofNat n) y; rwa [lit8 n h] at this
theorem aadd8r : ∀ (n : Nat) (x : UInt8), n < 256 → aint .add .u8 (x.toNat : Int) (no_index (OfNat.ofNat n)) = some (.int .u8 ((x + (OfNat.ofNat n : UInt8)).toNat : Int)) := fun n x h => by have := aadd8 x (OfNat.ofNat n); rwa [lit8 n h] at this
theorem asub8 : ∀ x y : UInt8, aint .sub .u8 (x.toNat : Int) (y.toNat : Int) = some (.int .u8 ((x - y).toNat : Int)) := fun x y => by rw [aint, wsub8]
theorem asub8l : ∀ (n : Nat) (y : UInt8), n < 256 → aint .sub .u8 (no_index (OfNat.ofNat n)) (y.toNat : Int) = some (.int .u8 (((OfNat.ofNat n : UInt8) - y).toNat : Int)) := fun n y h => by have := asub8 (OfNat.ofNat n) y; rwa [lit8 n h] at this
theorem asub8r : ∀ (n : Nat) (x : UInt8), n < 256 → aint .sub .u8 (x.toNat : Int) (no_index (OfNat.ofNat n)) = some (.int .u8 ((x - (OfNat.ofNat n : UInt8)).toNat : Int)) := fun n x h => by have := asub8 x (OfNat.ofNat n); rwa [lit8 n h] at this
theorem amul8 : ∀ x y : UInt8, aint .mul .u8 (x.toNat : Int) (y.toNat : Int) = some (.int .u8 ((x * y).toNat : Int)) := fun x y => by rw [aint, wmul8]
theorem amul8l : ∀ (n : Nat) (y : UInt8), n < 256 → aint .mul .u8 (no_index (OfNat.ofNat n)) (y.toNat : Int) = some (.int .u8 (((OfNat.ofNat n : UInt8) * y).toNat : Int)) := fun n y h => by have := amul8 (OfNat.ofNat n) y; rwa [lit8 n h] at this
theorem amul8r : ∀ (n : Nat) (x : UInt8), n < 256 → aint .mul .u8 (x.toNat : Int) (no_index (OfNat.ofNat n)) = some (.int .u8 ((x * (OfNat.ofNat n : UInt8)).toNat : Int)) := fun n x h => by have := amul8 x (OfNat.ofNat n); rwa [lit8 n h] at this
theorem aand8 : ∀ x y : UInt8, aint .and .u8 (x.toNat : Int) (y.toNat : Int) = some (.int .u8 ((x &&& y).toNat : Int)) := fun x y => by rw [aint, wand8]
theorem aand8l : ∀ (n : Nat) (y : UInt8), n < 256 → aint .and .u8 (no_index (OfNat.ofNat n)) (y.toNat : Int) = some (.int .u8 (((OfNat.ofNat n : UInt8) &&& y).toNat : Int)) := fun n y h => by have := aand8 (OfNat.ofNat n) y; rwa [lit8 n h] at this
theorem aand8r : ∀ (n : Nat) (x : UInt8), n < 256 → aint .and .u8 (x.toNat : Int) (no_index (OfNat.ofNat n)) = some (.int .u8 ((x &&& (OfNat.ofNat n : UInt8)).toNat : Int)) := fun n x h => by have := aand8 x (OfNat.ofNat n); rwa [lit8 n h] at this
theorem aor8 : ∀ x y : UInt8, aint .or .u8 (x.toNat : Int) (y.toNat : Int) = some (.int .u8 ((x ||| y).toNat : Int)) := fun x y => by rw [aint, wor8]
theorem aor8l : ∀ (n : Nat) (y : UInt8), n < 256 → aint .or .u8 (no_index (OfNat.ofNat n)) (y.toNat : Int) = some (.int .u8 (((OfNat.ofNat n : UInt8) ||| y).toNat : Int)) := fun n y h => by have := aor8 (OfNat.ofNat n) y; rwa [lit8 n h] at this
theorem aor8r : ∀ (n : Nat) (x : UInt8), n < 256 → aint .or .u8 (x.toNat : Int) (no_index (OfNat.ofNat n)) = some (.int .u8 ((x ||| (OfNat.ofNat n : UInt8)).toNat : Int)) := fun n x h => by have := aor8 x (OfNat.ofNat n); rwa [lit8 n h] at this
theorem axor8 : ∀ x y : UInt8, aint .xor .u8 (x.toNat : Int) (y.toNat : Int) = some (.int .u8 ((x ^^^ y).toNat : Int)) := fun x y => by rw [aint, wxor8]
theorem axor8l : ∀ (n : Nat) (y : UInt8), n < 256 → aint .xor .u8 (no_index (OfNat.ofNat n)) (y.toNat : Int) = some (.int .u8 (((OfNat.ofNat n : UInt8) ^^^ y).toNat : Int)) := fun n y h => by have := axor8 (OfNat.ofNat n) y; rwa [lit8 n h] at this
theorem axor8r : ∀ (n : Nat) (x : UInt8), n < 256 → aint .xor .u8 (x.toNat : Int) (no_index (OfNat.ofNat n)) = some (.int .u8 ((x ^^^ (OfNat.ofNat n : UInt8)).toNat : Int)) := fun n x h => by have := axor8 x (OfNat.ofNat n); rwa [lit8 n h] at this
theorem wquo8 (x y : UInt8) : IntKind.u8.wrap ((x.toNat : Int).tdiv (y.toNat : Int)) = ((x / y).toNat : Int) := by rw [← Int.ofNat_tdiv, ← UInt8.toNat_div, wid8]
theorem wrem8 (x y : UInt8) : ((x.toNat : Int).tmod (y.toNat : Int)) = ((x % y).toNat : Int) := by rw [← Int.ofNat_tmod, ← UInt8.toNat_mod]
theorem aquo8r : ∀ (n : Nat) (x : UInt8), n < 256 → n ≠ 0 → aint .quo .u8 (x.toNat : Int) (no_index (OfNat.ofNat n)) = some (.int .u8 ((x / (OfNat.ofNat n : UInt8)).toNat : Int)) := fun n x h h0 => by have := wquo8 x (OfNat.ofNat n); rw [lit8 n h] at this; show (if ((n : Nat) : Int) = 0 then none else some (Value.int IntKind.u8 (IntKind.u8.wrap ((x.toNat : Int).tdiv ((n : Nat) : Int))))) = _; rw [if_neg (by omega), this]
theorem arem8r : ∀ (n : Nat) (x : UInt8), n < 256 → n ≠ 0 → aint .rem .u8 (x.toNat : Int) (no_index (OfNat.ofNat n)) = some (.int .u8 ((x % (OfNat.ofNat n : UInt8)).toNat : Int)) := fun n x h h0 => by have := wrem8 x (OfNat.ofNat n); rw [lit8 n h] at this; show (if ((n : Nat) : Int) = 0 then none else some (Value.int IntKind.u8 ((x.toNat : Int).tmod ((n : Nat) : Int)))) = _; rw [if_neg (by omega), this]
theorem aquo8 : ∀ (x y : UInt8), y ≠ 0 → aint .quo .u8 (x.toNat : Int) (y.toNat : Int) = some (.int .u8 ((x / y).toNat : Int)) := fun x y h => by have h0 : (y.toNat : Int) ≠ 0 := fun e => h (UInt8.toNat_inj.1 (by simpa using e)); rw [aint, if_neg h0, wquo8]
theorem arem8 : ∀ (x y : UInt8), y ≠ 0 → aint .rem .u8 (x.toNat : Int) (y.toNat : Int) = some (.int .u8 ((x % y).toNat : Int)) := fun x y h => by have h0 : (y.toNat : Int) ≠ 0 := fun e => h (UInt8.toNat_inj.1 (by simpa using e)); rw [aint, if_neg h0, wrem8]
theorem ashl8 : ∀ (x : UInt8) (s : Int), 0 ≤ s → s < 8 → ashift .shl .u8 (x.toNat : Int) s = some (.int .u8 ((x <<< (UInt8.ofNat s.toNat)).toNat : Int)) := fun x s h0 h1 => by
  have hs : (s.toNat) < 8 := by omega
  rw [ashift, if_neg (by omega)]
  simp only [UInt8.toNat_shiftLeft, UInt8.toNat_ofNat', wrap8, IntKind.bits]
  rw [Nat.min_eq_left (by omega), Nat.mod_eq_of_lt (show s.toNat < 2 ^ 8 by omega), Nat.mod_eq_of_lt hs, Nat.shiftLeft_eq, show 2 ^ 8 = 256 from rfl, Int.natCast_emod, Int.natCast_mul, Int.natCast_pow]
  rfl
theorem ashr8 : ∀ (x : UInt8) (s : Int), 0 ≤ s → s < 8 → ashift .shr .u8 (x.toNat : Int) s = some (.int .u8 ((x >>> (UInt8.ofNat s.toNat)).toNat : Int)) := fun x s h0 h1 => by
  have hs : (s.toNat) < 8 := by omega
  rw [ashift, if_neg (by omega)]
  simp only [UInt8.toNat_shiftRight, UInt8.toNat_ofNat', IntKind.bits]
  rw [Nat.min_eq_left (by omega), Nat.mod_eq_of_lt (show s.toNat < 2 ^ 8 by omega), Nat.mod_eq_of_lt hs, Nat.shiftRight_eq_div_pow, Int.natCast_ediv, Int.natCast_pow]
  rfl
theorem wnat8 : ∀ n : Nat, IntKind.u8.wrap (n : Int) = ((UInt8.ofNat n).toNat : Int) := fun n => by rw [wrap8, UInt8.toNat_ofNat', show 2 ^ 8 = 256 from rfl, Int.natCast_emod]; rfl
theorem aeql8 : ∀ x y : UInt8, aint .eql .u8 (x.toNat : Int) (y.toNat : Int) = some (.bool (x == y)) := fun x y => by rw [aint]; congr 2; rw [Bool.eq_iff_iff]; simp [← UInt8.toNat_inj]; omega
theorem aeql8r : ∀ (n : Nat) (x : UInt8), n < 256 → aint .eql .u8 (x.toNat : Int) (no_index (OfNat.ofNat n)) = some (.bool (x == (OfNat.ofNat n : UInt8))) := fun n x h => by have := aeql8 x (OfNat.ofNat n); rwa [lit8 n h] at this
theorem aneq8 : ∀ x y : UInt8, aint .neq .u8 (x.toNat : Int) (y.toNat : Int) = some (.bool (x != y)) := fun x y => by rw [aint]; congr 2; rw [Bool.eq_iff_iff]; simp [← UInt8.toNat_inj]; omega
theorem aneq8r : ∀ (n : Nat) (x : UInt8), n < 256 → aint .neq .u8 (x.toNat : Int) (no_index (OfNat.ofNat n)) = some (.bool (x != (OfNat.ofNat n : UInt8))) := fun n x h => by have := aneq8 x (OfNat.ofNat n); rwa [lit8 n h] at this
theorem alss8 : ∀ x y : UInt8, aint .lss .u8 (x.toNat : Int) (y.toNat : Int) = some (.bool (decide (x.toNat < y.toNat))) := fun x y => by rw [aint]; congr 2; rw [decide_eq_decide]; simp
theorem alss8r : ∀ (n : Nat) (x : UInt8), aint .lss .u8 (x.toNat : Int) (no_index (OfNat.ofNat n)) = some (.bool (decide (x.toNat < n))) := fun n x => by show some (Value.bool (decide ((x.toNat : Int) < ((n : Nat) : Int)))) = _; congr 2; rw [decide_eq_decide]; simp
theorem aleq8 : ∀ x y : UInt8, aint .leq .u8 (x.toNat : Int) (y.toNat : Int) = some (.bool (decide (x.toNat ≤ y.toNat))) := fun x y => by rw [aint]; congr 2; rw [decide_eq_decide]; simp
theorem aleq8r : ∀ (n : Nat) (x : UInt8), aint .leq .u8 (x.toNat : Int) (no_index (OfNat.ofNat n)) = some (.bool (decide (x.toNat ≤ n))) := fun n x => by show some (Value.bool (decide ((x.toNat : Int) ≤ ((n : Nat) : Int)))) = _; congr 2; rw [decide_eq_decide]; simp
theorem agtr8 : ∀ x y : UInt8, aint .gtr .u8 (x.toNat : Int) (y.toNat : Int) = some (.bool (decide (x.toNat > y.toNat))) := fun x y => by rw [aint]; congr 2; rw [decide_eq_decide]; simp
theorem agtr8r : ∀ (n : Nat) (x : UInt8), aint .gtr .u8 (x.toNat : Int) (no_index (OfNat.ofNat n)) = some (.bool (decide (x.toNat > n))) := fun n x => by show some (Value.bool (decide ((x.toNat : Int) > ((n : Nat) : Int)))) = _; congr 2; rw [decide_eq_decide]; simp
theorem ageq8 : ∀ x y : UInt8, aint .geq .u8 (x.toNat : Int) (y.toNat : Int) = some (.bool (decide (x.toNat ≥ y.toNat))) := fun x y => by rw [aint]; congr 2; rw [decide_eq_decide]; simp
theorem ageq8r : ∀ (n : Nat) (x : UInt8), aint .geq .u8 (x.toNat : Int) (no_index (OfNat.ofNat n)) = some (.bool (decide (x.toNat ≥ n))) := fun n x => by show some (Value.bool (decide ((x.toNat : Int) ≥ ((n : Nat) : Int)))) = _; congr 2; rw [decide_eq_decide]; simp
theorem wrap16 (n : Int) : IntKind.u16.wrap n = n % 65536 := by simp [IntKind.wrap, IntKind.bits, IntKind.signed]
theorem lt16 (x : UInt16) : x.toNat < 65536 := x.toNat_lt
theorem lit16 (n : Nat) (h : n < 65536) : ((OfNat.ofNat n : UInt16)).toNat = n := by show (UInt16.ofNat n).toNat = n; rw [UInt16.toNat_ofNat']; exact Nat.mod_eq_of_lt h
theorem add16 (x y : Nat) : ((UInt16.ofNat x + UInt16.ofNat y).toNat : Int) = ((x : Int) + y) % 65536 := by rw [UInt16.toNat_add, UInt16.toNat_ofNat', UInt16.toNat_ofNat']; omega
theorem wadd16 (x y : UInt16) : IntKind.u16.wrap ((x.toNat : Int) + (y.toNat : Int)) = ((x + y).toNat : Int) := by rw [wrap16, UInt16.toNat_add]; omega
theorem wsub16 (x y : UInt16) : IntKind.u16.wrap ((x.toNat : Int) - (y.toNat : Int)) = ((x - y).toNat : Int) := by rw [wrap16, UInt16.toNat_sub]; have := lt16 x; have := lt16 y; omega
theorem wmul16 (x y : UInt16) : IntKind.u16.wrap ((x.toNat : Int) * (y.toNat : Int)) = ((x * y).toNat : Int) := by rw [wrap16, UInt16.toNat_mul, show 2 ^ 16 = 65536 from rfl, Int.natCast_emod, Int.natCast_mul]; rfl
theorem wid16 (x : UInt16) : IntKind.u16.wrap (x.toNat : Int) = (x.toNat : Int) := by rw [wrap16]; have := lt16 x; omega
theorem wand16 (x y : UInt16) : bits .and .u16 (x.toNat : Int) (y.toNat : Int) = ((x &&& y).toNat : Int) := by rw [UInt16.toNat_and, u16_and_nat _ _ (lt16 x) (lt16 y)]
theorem wor16 (x y : UInt16) : bits .or .u16 (x.toNat : Int) (y.toNat : Int) = ((x ||| y).toNat : Int) := by rw [UInt16.toNat_or, u16_or_nat _ _ (lt16 x) (lt16 y)]
theorem wxor16 (x y : UInt16) : bits .xor .u16 (x.toNat : Int) (y.toNat : Int) = ((x ^^^ y).toNat : Int) := by rw [UInt16.toNat_xor, u16_xor_nat _ _ (lt16 x) (lt16 y)]
theorem wquo16 (x y : UInt16) : IntKind.u16.wrap ((x.toNat : Int).tdiv (y.toNat : Int)) = ((x / y).toNat : Int) := by rw [← Int.ofNat_tdiv, ← UInt16.toNat_div, wid16]
theorem wrem16 (x y : UInt16) : ((x.toNat : Int).tmod (y.toNat : Int)) = ((x % y).toNat : Int) := by rw [← Int.ofNat_tmod, ← UInt16.toNat_mod]
theorem wrap32 (n : Int) : IntKind.u32.wrap n = n % 4294967296 := by simp [IntKind.wrap, IntKind.bits, IntKind.signed]
theorem lt32 (x : UInt32) : x.toNat < 4294967296 := x.toNat_lt
theorem lit32 (n : Nat) (h : n < 4294967296) : ((OfNat.ofNat n : UInt32)).toNat = n := by show (UInt32.ofNat n).toNat = n; rw [UInt32.toNat_ofNat']; exact Nat.mod_eq_of_lt h
theorem add32 (x y : Nat) : ((UInt32.ofNat x + UInt32.ofNat y).toNat : Int) = ((x : Int) + y) % 4294967296 := by rw [UInt32.toNat_add, UInt32.toNat_ofNat', UInt32.toNat_ofNat']; omega
theorem wadd32 (x y : UInt32) : IntKind.u32.wrap ((x.toNat : Int) + (y.toNat : Int)) = ((x + y).toNat : Int) := by rw [wrap32, UInt32.toNat_add]; omega
theorem wsub32 (x y : UInt32) : IntKind.u32.wrap ((x.toNat : Int) - (y.toNat : Int)) = ((x - y).toNat : Int) := by rw [wrap32, UInt32.toNat_sub]; have := lt32 x; have := lt32 y; omega
theorem wmul32 (x y : UInt32) : IntKind.u32.wrap ((x.toNat : Int) * (y.toNat : Int)) = ((x * y).toNat : Int) := by rw [wrap32, UInt32.toNat_mul, show 2 ^ 32 = 4294967296 from rfl, Int.natCast_emod, Int.natCast_mul]; rfl
theorem wid32 (x : UInt32) : IntKind.u32.wrap (x.toNat : Int) = (x.toNat : Int) := by rw [wrap32]; have := lt32 x; omega
theorem wand32 (x y : UInt32) : bits .and .u32 (x.toNat : Int) (y.toNat : Int) = ((x &&& y).toNat : Int) := by rw [UInt32.toNat_and, u32_and_nat _ _ (lt32 x) (lt32 y)]
theorem wor32 (x y : UInt32) : bits .or .u32 (x.toNat : Int) (y.toNat : Int) = ((x ||| y).toNat : Int) := by rw [UInt32.toNat_or, u32_or_nat _ _ (lt32 x) (lt32 y)]
theorem wxor32 (x y : UInt32) : bits .xor .u32 (x.toNat : Int) (y.toNat : Int) = ((x ^^^ y).toNat : Int) := by rw [UInt32.toNat_xor, u32_xor_nat _ _ (lt32 x) (lt32 y)]
theorem aadd32 : ∀ x y : UInt32, aint .add .u32 (x.toNat : Int) (y.toNat : Int) = some (.int .u32 ((x + y).toNat : Int)) := fun x y => by rw [aint, wadd32]
theorem aadd32l : ∀ (n : Nat) (y : UInt32), n < 4294967296 → aint .add .u32 (no_index (OfNat.ofNat n)) (y.toNat : Int) = some (.int .u32 (((OfNat.ofNat n : UInt32) + y).toNat : Int)) := fun n y h => by have := aadd32 (OfNat.ofNat n) y; rwa [lit32 n h] at this
theorem aadd32r : ∀ (n : Nat) (x : UInt32), n < 4294967296 → aint .add .u32 (x.toNat : Int) (no_index (OfNat.ofNat n)) = some (.int .u32 ((x + (OfNat.ofNat n : UInt32)).toNat : Int)) := fun n x h => by have := aadd32 x (OfNat.ofNat n); rwa [lit32 n h] at this
theorem asub32 : ∀ x y : UInt32, aint .sub .u32 (x.toNat : Int) (y.toNat : Int) = some (.int .u32 ((x - y).toNat : Int)) := fun x y => by rw [aint, wsub32]
theorem asub32l : ∀ (n : Nat) (y : UInt32), n < 4294967296 → aint .sub .u32 (no_index (OfNat.ofNat n)) (y.toNat : Int) = some (.int .u32 (((OfNat.ofNat n : UInt32) - y).toNat : Int)) := fun n y h => by have := asub32 (OfNat.ofNat n) y; rwa [lit32 n h] at this
theorem asub32r : ∀ (n : Nat) (x : UInt32), n < 4294967296 → aint .sub .u32 (x.toNat : Int) (no_index (OfNat.ofNat n)) = some (.int .u32 ((x - (OfNat.ofNat n : UInt32)).toNat : Int)) := fun n x h => by have := asub32 x (OfNat.ofNat n); rwa [lit32 n h] at this
theorem amul32 : ∀ x y : UInt32, aint .mul .u32 (x.toNat : Int) (y.toNat : Int) = some (.int .u32 ((x * y).toNat : Int)) := fun x y => by rw [aint, wmul32]
theorem amul32l : ∀ (n : Nat) (y : UInt32), n < 4294967296 → aint .mul .u32 (no_index (OfNat.ofNat n)) (y.toNat : Int) = some (.int .u32 (((OfNat.ofNat n : UInt32) * y).toNat : Int)) := fun n y h => by have := amul32 (OfNat.ofNat n) y; rwa [lit32 n h] at this
theorem amul32r : ∀ (n : Nat) (x : UInt32), n < 4294967296 → aint .mul .u32 (x.toNat : Int) (no_index (OfNat.ofNat n)) = some (.int .u32 ((x * (OfNat.ofNat n : UInt32)).toNat : Int)) := fun n x h => by have := amul32 x (OfNat.ofNat n); rwa [lit32 n h] at this
theorem aand32 : ∀ x y : UInt32, aint .and .u32 (x.toNat : Int) (y.toNat : Int) = some (.int .u32 ((x &&& y).toNat : Int)) := fun x y => by rw [aint, wand32]
theorem aand32l : ∀ (n : Nat) (y : UInt32), n < 4294967296 → aint .and .u32 (no_index (OfNat.ofNat n)) (y.toNat : Int) = some (.int .u32 (((OfNat.ofNat n : UInt32) &&& y).toNat : Int)) := fun n y h => by have := aand32 (OfNat.ofNat n) y; rwa [lit32 n h] at this
theorem aand32r : ∀ (n : Nat) (x : UInt32), n < 4294967296 → aint .and .u32 (x.toNat : Int) (no_index (OfNat.ofNat n)) = some (.int .u32 ((x &&& (OfNat.ofNat n : UInt32)).toNat : Int)) := fun n x h => by have := aand32 x (OfNat.ofNat n); rwa [lit32 n h] at this
theorem aor32 : ∀ x y : UInt32, aint .or .u32 (x.toNat : Int) (y.toNat : Int) = some (.int .u32 ((x ||| y).toNat : Int)) := fun x y => by rw [aint, wor32]
theorem aor32l : ∀ (n : Nat) (y : UInt32), n < 4294967296 → aint .or .u32 (no_index (OfNat.ofNat n)) (y.toNat : Int) = some (.int .u32 (((OfNat.ofNat n : UInt32) ||| y).toNat : Int)) := fun n y h => by have := aor32 (OfNat.ofNat n) y; rwa [lit32 n h] at this
theorem aor32r : ∀ (n : Nat) (x : UInt32), n < 4294967296 → aint .or .u32 (x.toNat : Int) (no_index (OfNat.ofNat n)) = some (.int .u32 ((x ||| (OfNat.ofNat n : UInt32)).toNat : Int)) := fun n x h => by have := aor32 x (OfNat.ofNat n); rwa [lit32 n h] at this
theorem axor32 : ∀ x y : UInt32, aint .xor .u32 (x.toNat : Int) (y.toNat : Int) = some (.int .u32 ((x ^^^ y).toNat : Int)) := fun x y => by rw [aint, wxor32]
theorem axor32l : ∀ (n : Nat) (y : UInt32), n < 4294967296 → aint .xor .u32 (no_index (OfNat.ofNat n)) (y.toNat : Int) = some (.int .u32 (((OfNat.ofNat n : UInt32) ^^^ y).toNat : Int)) := fun n y h => by have := axor32 (OfNat.ofNat n) y; rwa [lit32 n h] at this
theorem axor32r : ∀ (n : Nat) (x : UInt32), n < 4294967296 → aint .xor .u32 (x.toNat : Int) (no_index (OfNat.ofNat n)) = some (.int .u32 ((x ^^^ (OfNat.ofNat n : UInt32)).toNat : Int)) := fun n x h => by have := axor32 x (OfNat.ofNat n); rwa [lit32 n h] at this
theorem wquo32 (x y : UInt32) : IntKind.u32.wrap ((x.toNat : Int).tdiv (y.toNat : Int)) = ((x / y).toNat : Int) := by rw [← Int.ofNat_tdiv, ← UInt32.toNat_div, wid32]
theorem wrem32 (x y : UInt32) : ((x.toNat : Int).tmod (y.toNat : Int)) = ((x % y).toNat : Int) := by rw [← Int.ofNat_tmod, ← UInt32.toNat_mod]
theorem aquo32r : ∀ (n : Nat) (x : UInt32), n < 4294967296 → n ≠ 0 → aint .quo .u32 (x.toNat : Int) (no_index (OfNat.ofNat n)) = some (.int .u32 ((x / (OfNat.ofNat n : UInt32)).toNat : Int)) := fun n x h h0 => by have := wquo32 x (OfNat.ofNat n); rw [lit32 n h] at this; show (if ((n : Nat) : Int) = 0 then none else some (Value.int IntKind.u32 (IntKind.u32.wrap ((x.toNat : Int).tdiv ((n : Nat) : Int))))) = _; rw [if_neg (by omega), this]
theorem arem32r : ∀ (n : Nat) (x : UInt32), n < 4294967296 → n ≠ 0 → aint .rem .u32 (x.toNat : Int) (no_index (OfNat.ofNat n)) = some (.int .u32 ((x % (OfNat.ofNat n : UInt32)).toNat : Int)) := fun n x h h0 => by have := wrem32 x (OfNat.ofNat n); rw [lit32 n h] at this; show (if ((n : Nat) : Int) = 0 then none else some (Value.int IntKind.u32 ((x.toNat : Int).tmod ((n : Nat) : Int)))) = _; rw [if_neg (by omega), this]
theorem aquo32 : ∀ (x y : UInt32), y ≠ 0 → aint .quo .u32 (x.toNat : Int) (y.toNat : Int) = some (.int .u32 ((x / y).toNat : Int)) := fun x y h => by have h0 : (y.toNat : Int) ≠ 0 := fun e => h (UInt32.toNat_inj.1 (by simpa using e)); rw [aint, if_neg h0, wquo32]
theorem arem32 : ∀ (x y : UInt32), y ≠ 0 → aint .rem .u32 (x.toNat : Int) (y.toNat : Int) = some (.int .u32 ((x % y).toNat : Int)) := fun x y h => by have h0 : (y.toNat : Int) ≠ 0 := fun e => h (UInt32.toNat_inj.1 (by simpa using e)); rw [aint, if_neg h0, wrem32]
theorem ashl32 : ∀ (x : UInt32) (s : Int), 0 ≤ s → s < 32 → ashift .shl .u32 (x.toNat : Int) s = some (.int .u32 ((x <<< (UInt32.ofNat s.toNat)).toNat : Int)) := fun x s h0 h1 => by
  have hs : (s.toNat) < 32 := by omega
  rw [ashift, if_neg (by omega)]
  simp only [UInt32.toNat_shiftLeft, UInt32.toNat_ofNat', wrap32, IntKind.bits]
  rw [Nat.min_eq_left (by omega), Nat.mod_eq_of_lt (show s.toNat < 2 ^ 32 by omega), Nat.mod_eq_of_lt hs, Nat.shiftLeft_eq, show 2 ^ 32 = 4294967296 from rfl, Int.natCast_emod, Int.natCast_mul, Int.natCast_pow]
  rfl
theorem ashr32 : ∀ (x : UInt32) (s : Int), 0 ≤ s → s < 32 → ashift .shr .u32 (x.toNat : Int) s = some (.int .u32 ((x >>> (UInt32.ofNat s.toNat)).toNat : Int)) := fun x s h0 h1 => by
  have hs : (s.toNat) < 32 := by omega
  rw [ashift, if_neg (by omega)]
  simp only [UInt32.toNat_shiftRight, UInt32.toNat_ofNat', IntKind.bits]
  rw [Nat.min_eq_left (by omega), Nat.mod_eq_of_lt (show s.toNat < 2 ^ 32 by omega), Nat.mod_eq_of_lt hs, Nat.shiftRight_eq_div_pow, Int.natCast_ediv, Int.natCast_pow]
  rfl
theorem wnat32 : ∀ n : Nat, IntKind.u32.wrap (n : Int) = ((UInt32.ofNat n).toNat : Int) := fun n => by rw [wrap32, UInt32.toNat_ofNat', show 2 ^ 32 = 4294967296 from rfl, Int.natCast_emod]; rfl
theorem aeql32 : ∀ x y : UInt32, aint .eql .u32 (x.toNat : Int) (y.toNat : Int) = some (.bool (x == y)) := fun x y => by rw [aint]; congr 2; rw [Bool.eq_iff_iff]; simp [← UInt32.toNat_inj]; omega
theorem aeql32r : ∀ (n : Nat) (x : UInt32), n < 4294967296 → aint .eql .u32 (x.toNat : Int) (no_index (OfNat.ofNat n)) = some (.bool (x == (OfNat.ofNat n : UInt32))) := fun n x h => by have := aeql32 x (OfNat.ofNat n); rwa [lit32 n h] at this
theorem aneq32 : ∀ x y : UInt32, aint .neq .u32 (x.toNat : Int) (y.toNat : Int) = some (.bool (x != y)) := fun x y => by rw [aint]; congr 2; rw [Bool.eq_iff_iff]; simp [← UInt32.toNat_inj]; omega
theorem aneq32r : ∀ (n : Nat) (x : UInt32), n < 4294967296 → aint .neq .u32 (x.toNat : Int) (no_index (OfNat.ofNat n)) = some (.bool (x != (OfNat.ofNat n : UInt32))) := fun n x h => by have := aneq32 x (OfNat.ofNat n); rwa [lit32 n h] at this
theorem alss32 : ∀ x y : UInt32, aint .lss .u32 (x.toNat : Int) (y.toNat : Int) = some (.bool (decide (x.toNat < y.toNat))) := fun x y => by rw [aint]; congr 2; rw [decide_eq_decide]; simp
theorem alss32r : ∀ (n : Nat) (x : UInt32), aint .lss .u32 (x.toNat : Int) (no_index (OfNat.ofNat n)) = some (.bool (decide (x.toNat < n))) := fun n x => by show some (Value.bool (decide ((x.toNat : Int) < ((n : Nat) : Int)))) = _; congr 2; rw [decide_eq_decide]; simp
theorem aleq32 : ∀ x y : UInt32, aint .leq .u32 (x.toNat : Int) (y.toNat : Int) = some (.bool (decide (x.toNat ≤ y.toNat))) := fun x y => by rw [aint]; congr 2; rw [decide_eq_decide]; simp
theorem aleq32r : ∀ (n : Nat) (x : UInt32), aint .leq .u32 (x.toNat : Int) (no_index (OfNat.ofNat n)) = some (.bool (decide (x.toNat ≤ n))) := fun n x => by show some (Value.bool (decide ((x.toNat : Int) ≤ ((n : Nat) : Int)))) = _; congr 2; rw [decide_eq_decide]; simp
theorem agtr32 : ∀ x y : UInt32, aint .gtr .u32 (x.toNat : Int) (y.toNat : Int) = some (.bool (decide (x.toNat > y.toNat))) := fun x y => by rw [aint]; congr 2; rw [decide_eq_decide]; simp
theorem agtr32r : ∀ (n : Nat) (x : UInt32), aint .gtr .u32 (x.toNat : Int) (no_index (OfNat.ofNat n)) = some (.bool (decide (x.toNat > n))) := fun n x => by show some (Value.bool (decide ((x.toNat : Int) > ((n : Nat) : Int)))) = _; congr 2; rw [decide_eq_decide]; simp
theorem ageq32 : ∀ x y : UInt32, aint .geq .u32 (x.toNat : Int) (y.toNat : Int) = some (.bool (decide (x.toNat ≥ y.toNat))) := fun x y => by rw [aint]; congr 2; rw [decide_eq_decide]; simp
theorem ageq32r : ∀ (n : Nat) (x : UInt32), aint .geq .u32 (x.toNat : Int) (no_index (OfNat.ofNat n)) = some (.bool (decide (x.toNat ≥ n))) := fun n x => by show some (Value.bool (decide ((x.toNat : Int) ≥ ((n : Nat) : Int)))) = _; congr 2; rw [decide_eq_decide]; simp
theorem wrap64 (n : Int) : IntKind.u64.wrap n = n % 18446744073709551616 := by simp [IntKind.wrap, IntKind.bits, IntKind.signed]
theorem lt64 (x : UInt64) : x.toNat < 18446744073709551616 := x.toNat_lt
theorem lit64 (n : Nat) (h : n < 18446744073709551616) : ((OfNat.ofNat n : UInt64)).toNat = n := by show (UInt64.ofNat n).toNat = n; rw [UInt64.toNat_ofNat']; exact Nat.mod_eq_of_lt h
theorem add64 (x y : Nat) : ((UInt64.ofNat x + UInt64.ofNat y).toNat : Int) = ((x : Int) + y) % 18446744073709551616 := by rw [UInt64.toNat_add, UInt64.toNat_ofNat', UInt64.toNat_ofNat']; omega
theorem wadd64 (x y : UInt64) : IntKind.u64.wrap ((x.toNat : Int) + (y.toNat : Int)) = ((x + y).toNat : Int) := by rw [wrap64, UInt64.toNat_add]; omega
theorem wsub64 (x y : UInt64) : IntKind.u64.wrap ((x.toNat : Int) - (y.toNat : Int)) = ((x - y).toNat : Int) := by rw [wrap64, UInt64.toNat_sub]; have := lt64 x; have := lt64 y; omega
theorem wmul64 (x y : UInt64) : IntKind.u64.wrap ((x.toNat : Int) * (y.toNat : Int)) = ((x * y).toNat : Int) := by rw [wrap64, UInt64.toNat_mul, show 2 ^ 64 = 18446744073709551616 from rfl, Int.natCast_emod, Int.natCast_mul]; rfl
theorem wid64 (x : UInt64) : IntKind.u64.wrap (x.toNat : Int) = (x.toNat : Int) := by rw [wrap64]; have := lt64 x; omega
theorem wand64 (x y : UInt64) : bits .and .u64 (x.toNat : Int) (y.toNat : Int) = ((x &&& y).toNat : Int) := by rw [UInt64.toNat_and, u64_and_nat _ _ (lt64 x) (lt64 y)]
theorem wor64 (x y : UInt64) : bits .or .u64 (x.toNat : Int) (y.toNat : Int) = ((x ||| y).toNat : Int) := by rw [UInt64.toNat_or, u64_or_nat _ _ (lt64 x) (lt64 y)]
theorem wxor64 (x y : UInt64) : bits .xor .u64 (x.toNat : Int) (y.toNat : Int) = ((x ^^^ y).toNat : Int) := by rw [UInt64.toNat_xor, u64_xor_nat _ _ (lt64 x) (lt64 y)]
theorem aadd64 : ∀ x y : UInt64, aint .add .u64 (x.toNat : Int) (y.toNat : Int) = some (.int .u64 ((x + y).toNat : Int)) := fun x y => by rw [aint, wadd64]
theorem aadd64l : ∀ (n : Nat) (y : UInt64), n < 18446744073709551616 → aint .add .u64 (no_index (OfNat.ofNat n)) (y.toNat : Int) = some (.int .u64 (((OfNat.ofNat n : UInt64) + y).toNat : Int)) := fun n y h => by have := aadd64 (OfNat.ofNat n) y; rwa [lit64 n h] at this
theorem aadd64r : ∀ (n : Nat) (x : UInt64), n < 18446744073709551616 → aint .add .u64 (x.toNat : Int) (no_index (OfNat.ofNat n)) = some (.int .u64 ((x + (OfNat.ofNat n : UInt64)).toNat : Int)) := fun n x h => by have := aadd64 x (OfNat.ofNat n); rwa [lit64 n h] at this
theorem asub64 : ∀ x y : UInt64, aint .sub .u64 (x.toNat : Int) (y.toNat : Int) = some (.int .u64 ((x - y).toNat : Int)) := fun x y => by rw [aint, wsub64]
theorem asub64l : ∀ (n : Nat) (y : UInt64), n < 18446744073709551616 → aint .sub .u64 (no_index (OfNat.ofNat n)) (y.toNat : Int) = some (.int .u64 (((OfNat.ofNat n : UInt64) - y).toNat : Int)) := fun n y h => by have := asub64 (OfNat.ofNat n) y; rwa [lit64 n h] at this
theorem asub64r : ∀ (n : Nat) (x : UInt64), n < 18446744073709551616 → aint .sub .u64 (x.toNat : Int) (no_index (OfNat.ofNat n)) = some (.int .u64 ((x - (OfNat.ofNat n : UInt64)).toNat : Int)) := fun n x h => by have := asub64 x (OfNat.ofNat n); rwa [lit64 n h] at this
theorem amul64 : ∀ x y : UInt64, aint .mul .u64 (x.toNat : Int) (y.toNat : Int) = some (.int .u64 ((x * y).toNat : Int)) := fun x y => by rw [aint, wmul64]
theorem amul64l : ∀ (n : Nat) (y : UInt64), n < 18446744073709551616 → aint .mul .u64 (no_index (OfNat.ofNat n)) (y.toNat : Int) = some (.int .u64 (((OfNat.ofNat n : UInt64) * y).toNat : Int)) := fun n y h => by have := amul64 (OfNat.ofNat n) y; rwa [lit64 n h] at this
theorem amul64r : ∀ (n : Nat) (x : UInt64), n < 18446744073709551616 → aint .mul .u64 (x.toNat : Int) (no_index (OfNat.ofNat n)) = some (.int .u64 ((x * (OfNat.ofNat n : UInt64)).toNat : Int)) := fun n x h => by have := amul64 x (OfNat.ofNat n); rwa [lit64 n h] at this
theorem aand64 : ∀ x y : UInt64, aint .and .u64 (x.toNat : Int) (y.toNat : Int) = some (.int .u64 ((x &&& y).toNat : Int)) := fun x y => by rw [aint, wand64]
theorem aand64l : ∀ (n : Nat) (y : UInt64), n < 18446744073709551616 → aint .and .u64 (no_index (OfNat.ofNat n)) (y.toNat : Int) = some (.int .u64 (((OfNat.ofNat n : UInt64) &&& y).toNat : Int)) := fun n y h => by have := aand64 (OfNat.ofNat n) y; rwa [lit64 n h] at this
theorem aand64r : ∀ (n : Nat) (x : UInt64), n < 18446744073709551616 → aint .and .u64 (x.toNat : Int) (no_index (OfNat.ofNat n)) = some (.int .u64 ((x &&& (OfNat.ofNat n : UInt64)).toNat : Int)) := fun n x h => by have := aand64 x (OfNat.ofNat n); rwa [lit64 n h] at this
theorem aor64 : ∀ x y : UInt64, aint .or .u64 (x.toNat : Int) (y.toNat : Int) = some (.int .u64 ((x ||| y).toNat : Int)) := fun x y => by rw [aint, wor64]
theorem aor64l : ∀ (n : Nat) (y : UInt64), n < 18446744073709551616 → aint .or .u64 (no_index (OfNat.ofNat n)) (y.toNat : Int) = some (.int .u64 (((OfNat.ofNat n : UInt64) ||| y).toNat : Int)) := fun n y h => by have := aor64 (OfNat.ofNat n) y; rwa [lit64 n h] at this
theorem aor64r : ∀ (n : Nat) (x : UInt64), n < 18446744073709551616 → aint .or .u64 (x.toNat : Int) (no_index (OfNat.ofNat n)) = some (.int .u64 ((x ||| (OfNat.ofNat n : UInt64)).toNat : Int)) := fun n x h => by have := aor64 x (OfNat.ofNat n); rwa [lit64 n h] at this
theorem axor64 : ∀ x y : UInt64, aint .xor .u64 (x.toNat : Int) (y.toNat : Int) = some (.int .u64 ((x ^^^ y).toNat : Int)) := fun x y => by rw [aint, wxor64]
theorem axor64l : ∀ (n : Nat) (y : UInt64), n < 18446744073709551616 → aint .xor .u64 (no_index (OfNat.ofNat n)) (y.toNat : Int) = some (.int .u64 (((OfNat.ofNat n : UInt64) ^^^ y).toNat : Int)) := fun n y h => by have := axor64 (OfNat.ofNat n) y; rwa [lit64 n h] at this
theorem axor64r : ∀ (n : Nat) (x : UInt64), n < 18446744073709551616 → aint .xor .u64 (x.toNat : Int) (no_index (OfNat.ofNat n)) = some (.int .u64 ((x ^^^ (OfNat.ofNat n : UInt64)).toNat : Int)) := fun n x h => by have := axor64 x (OfNat.ofNat n); rwa [lit64 n h] at this
theorem wquo64 (x y : UInt64) : IntKind.u64.wrap ((x.toNat : Int).tdiv (y.toNat : Int)) = ((x / y).toNat : Int) := by rw [← Int.ofNat_tdiv, ← UInt64.toNat_div, wid64]
theorem wrem64 (x y : UInt64) : ((x.toNat : Int).tmod (y.toNat : Int)) = ((x % y).toNat : Int) := by rw [← Int.ofNat_tmod, ← UInt64.toNat_mod]
theorem aquo64r : ∀ (n : Nat) (x : UInt64), n < 18446744073709551616 → n ≠ 0 → aint .quo .u64 (x.toNat : Int) (no_index (OfNat.ofNat n)) = some (.int .u64 ((x / (OfNat.ofNat n : UInt64)).toNat : Int)) := fun n x h h0 => by have := wquo64 x (OfNat.ofNat n); rw [lit64 n h] at this; show (if ((n : Nat) : Int) = 0 then none else some (Value.int IntKind.u64 (IntKind.u64.wrap ((x.toNat : Int).tdiv ((n : Nat) : Int))))) = _; rw [if_neg (by omega), this]
theorem arem64r : ∀ (n : Nat) (x : UInt64), n < 18446744073709551616 → n ≠ 0 → aint .rem .u64 (x.toNat : Int) (no_index (OfNat.ofNat n)) = some (.int .u64 ((x % (OfNat.ofNat n : UInt64)).toNat : Int)) := fun n x h h0 => by have := wrem64 x (OfNat.ofNat n); rw [lit64 n h] at this; show (if ((n : Nat) : Int) = 0 then none else some (Value.int IntKind.u64 ((x.toNat : Int).tmod ((n : Nat) : Int)))) = _; rw [if_neg (by omega), this]
theorem aquo64 : ∀ (x y : UInt64), y ≠ 0 → aint .quo .u64 (x.toNat : Int) (y.toNat : Int) = some (.int .u64 ((x / y).toNat : Int)) := fun x y h => by have h0 : (y.toNat : Int) ≠ 0 := fun e => h (UInt64.toNat_inj.1 (by simpa using e)); rw [aint, if_neg h0, wquo64]
theorem arem64 : ∀ (x y : UInt64), y ≠ 0 → aint .rem .u64 (x.toNat : Int) (y.toNat : Int) = some (.int .u64 ((x % y).toNat : Int)) := fun x y h => by have h0 : (y.toNat : Int) ≠ 0 := fun e => h (UInt64.toNat_inj.1 (by simpa using e)); rw [aint, if_neg h0, wrem64]
theorem ashl64 : ∀ (x : UInt64) (s : Int), 0 ≤ s → s < 64 → ashift .shl .u64 (x.toNat : Int) s = some (.int .u64 ((x <<< (UInt64.ofNat s.toNat)).toNat : Int)) := fun x s h0 h1 => by
  have hs : (s.toNat) < 64 := by omega
  rw [ashift, if_neg (by omega)]
  simp only [UInt64.toNat_shiftLeft, UInt64.toNat_ofNat', wrap64, IntKind.bits]
  rw [Nat.min_eq_left (by omega), Nat.mod_eq_of_lt (show s.toNat < 2 ^ 64 by omega), Nat.mod_eq_of_lt hs, Nat.shiftLeft_eq, show 2 ^ 64 = 18446744073709551616 from rfl, Int.natCast_emod, Int.natCast_mul, Int.natCast_pow]
  rfl
theorem ashr64 : ∀ (x : UInt64) (s : Int), 0 ≤ s → s < 64 → ashift .shr .u64 (x.toNat : Int) s = some (.int .u64 ((x >>> (UInt64.ofNat s.toNat)).toNat : Int)) := fun x s h0 h1 => by
  have hs : (s.toNat) < 64 := by omega
  rw [ashift, if_neg (by omega)]
  simp only [UInt64.toNat_shiftRight, UInt64.toNat_ofNat', IntKind.bits]
  rw [Nat.min_eq_left (by omega), Nat.mod_eq_of_lt (show s.toNat < 2 ^ 64 by omega), Nat.mod_eq_of_lt hs, Nat.shiftRight_eq_div_pow, Int.natCast_ediv, Int.natCast_pow]
  rfl
theorem wnat64 : ∀ n : Nat, IntKind.u64.wrap (n : Int) = ((UInt64.ofNat n).toNat : Int) := fun n => by rw [wrap64, UInt64.toNat_ofNat', show 2 ^ 64 = 18446744073709551616 from rfl, Int.natCast_emod]; rfl
theorem aeql64 : ∀ x y : UInt64, aint .eql .u64 (x.toNat : Int) (y.toNat : Int) = some (.bool (x == y)) := fun x y => by rw [aint]; congr 2; rw [Bool.eq_iff_iff]; simp [← UInt64.toNat_inj]; omega
theorem aeql64r : ∀ (n : Nat) (x : UInt64), n < 18446744073709551616 → aint .eql .u64 (x.toNat : Int) (no_index (OfNat.ofNat n)) = some (.bool (x == (OfNat.ofNat n : UInt64))) := fun n x h => by have := aeql64 x (OfNat.ofNat n); rwa [lit64 n h] at this
theorem aneq64 : ∀ x y : UInt64, aint .neq .u64 (x.toNat : Int) (y.toNat : Int) = some (.bool (x != y)) := fun x y => by rw [aint]; congr 2; rw [Bool.eq_iff_iff]; simp [← UInt64.toNat_inj]; omega
theorem aneq64r : ∀ (n : Nat) (x : UInt64), n < 18446744073709551616 → aint .neq .u64 (x.toNat : Int) (no_index (OfNat.ofNat n)) = some (.bool (x != (OfNat.ofNat n : UInt64))) := fun n x h => by have := aneq64 x (OfNat.ofNat n); rwa [lit64 n h] at this
theorem alss64 : ∀ x y : UInt64, aint .lss .u64 (x.toNat : Int) (y.toNat : Int) = some (.bool (decide (x.toNat < y.toNat))) := fun x y => by rw [aint]; congr 2; rw [decide_eq_decide]; simp
theorem alss64r : ∀ (n : Nat) (x : UInt64), aint .lss .u64 (x.toNat : Int) (no_index (OfNat.ofNat n)) = some (.bool (decide (x.toNat < n))) := fun n x => by show some (Value.bool (decide ((x.toNat : Int) < ((n : Nat) : Int)))) = _; congr 2; rw [decide_eq_decide]; simp
theorem aleq64 : ∀ x y : UInt64, aint .leq .u64 (x.toNat : Int) (y.toNat : Int) = some (.bool (decide (x.toNat ≤ y.toNat))) := fun x y => by rw [aint]; congr 2; rw [decide_eq_decide]; simp
theorem aleq64r : ∀ (n : Nat) (x : UInt64), aint .leq .u64 (x.toNat : Int) (no_index (OfNat.ofNat n)) = some (.bool (decide (x.toNat ≤ n))) := fun n x => by show some (Value.bool (decide ((x.toNat : Int) ≤ ((n : Nat) : Int)))) = _; congr 2; rw [decide_eq_decide]; simp
theorem agtr64 : ∀ x y : UInt64, aint .gtr .u64 (x.toNat : Int) (y.toNat : Int) = some (.bool (decide (x.toNat > y.toNat))) := fun x y => by rw [aint]; congr 2; rw [decide_eq_decide]; simp
theorem agtr64r : ∀ (n : Nat) (x : UInt64), aint .gtr .u64 (x.toNat : Int) (no_index (OfNat.ofNat n)) = some (.bool (decide (x.toNat > n))) := fun n x => by show some (Value.bool (decide ((x.toNat : Int) > ((n : Nat) : Int)))) = _; congr 2; rw [decide_eq_decide]; simp
theorem ageq64 : ∀ x y : UInt64, aint .geq .u64 (x.toNat : Int) (y.toNat : Int) = some (.bool (decide (x.toNat ≥ y.toNat))) := fun x y => by rw [aint]; congr 2; rw [decide_eq_decide]; simp
theorem ageq64r : ∀ (n : Nat) (x : UInt64), aint .geq .u64 (x.toNat : Int) (no_index (OfNat.ofNat n)) = some (.bool (decide (x.toNat ≥ n))) := fun n x => by show some (Value.bool (decide ((x.toNat : Int) ≥ ((n : Nat) : Int)))) = _; congr 2; rw [decide_eq_decide]; simp
theorem cv88 : ∀ x : UInt8, IntKind.u8.wrap (x.toNat : Int) = (x.toNat : Int) := wid8
theorem cv832 : ∀ x : UInt8, IntKind.u32.wrap (x.toNat : Int) = ((x.toUInt32).toNat : Int) := fun x => by rw [wrap32]; have := lt8 x; simp [UInt8.toNat_toUInt32]; try omega
theorem cv864 : ∀ x : UInt8, IntKind.u64.wrap (x.toNat : Int) = ((x.toUInt64).toNat : Int) := fun x => by rw [wrap64]; have := lt8 x; simp [UInt8.toNat_toUInt64]; try omega
theorem cvi8 : ∀ x : UInt8, IntKind.i64.wrap (x.toNat : Int) = (x.toNat : Int) := fun x => by rw [IntKind.wrap_i64]; have := lt8 x; omega
theorem cv328 : ∀ x : UInt32, IntKind.u8.wrap (x.toNat : Int) = ((x.toUInt8).toNat : Int) := fun x => by rw [wrap8]; have := lt32 x; simp [UInt32.toNat_toUInt8]; try omega
theorem cv3232 : ∀ x : UInt32, IntKind.u32.wrap (x.toNat : Int) = (x.toNat : Int) := wid32
theorem cv3264 : ∀ x : UInt32, IntKind.u64.wrap (x.toNat : Int) = ((x.toUInt64).toNat : Int) := fun x => by rw [wrap64]; have := lt32 x; simp [UInt32.toNat_toUInt64]; try omega
theorem cvi32 : ∀ x : UInt32, IntKind.i64.wrap (x.toNat : Int) = (x.toNat : Int) := fun x => by rw [IntKind.wrap_i64]; have := lt32 x; omega
theorem cv648 : ∀ x : UInt64, IntKind.u8.wrap (x.toNat : Int) = ((x.toUInt8).toNat : Int) := fun x => by rw [wrap8]; have := lt64 x; simp [UInt64.toNat_toUInt8]; try omega
theorem cv6432 : ∀ x : UInt64, IntKind.u32.wrap (x.toNat : Int) = ((x.toUInt32).toNat : Int) := fun x => by rw [wrap32]; have := lt64 x; simp [UInt64.toNat_toUInt32]; try omega
theorem cv6464 : ∀ x : UInt64, IntKind.u64.wrap (x.toNat : Int) = (x.toNat : Int) := wid64
theorem wi64 : ∀ n : Int, -9223372036854775808 ≤ n → n < 9223372036854775808 → IntKind.i64.wrap n = n := fun n h0 h1 => by rw [IntKind.wrap_i64]; omega
theorem aiadd : ∀ x y : Nat, x + y < 9223372036854775808 → aint .add .i64 (x : Int) (y : Int) = some (.int .i64 ((x + y : Nat) : Int)) := fun x y  h => by rw [aint, ← Int.natCast_add, wi64 _ (by omega) (by omega)]
theorem aiaddl : ∀ n y : Nat, n + y < 9223372036854775808 → aint .add .i64 (no_index (OfNat.ofNat n)) (y : Int) = some (.int .i64 ((n + y : Nat) : Int)) := fun n y => aiadd n y
theorem aiaddr : ∀ n x : Nat, x + n < 9223372036854775808 → aint .add .i64 (x : Int) (no_index (OfNat.ofNat n)) = some (.int .i64 ((x + n : Nat) : Int)) := fun n x => aiadd x n
theorem aimul : ∀ x y : Nat, x * y < 9223372036854775808 → aint .mul .i64 (x : Int) (y : Int) = some (.int .i64 ((x * y : Nat) : Int)) := fun x y  h => by rw [aint, ← Int.natCast_mul, wi64 _ (by omega) (by omega)]
theorem aimull : ∀ n y : Nat, n * y < 9223372036854775808 → aint .mul .i64 (no_index (OfNat.ofNat n)) (y : Int) = some (.int .i64 ((n * y : Nat) : Int)) := fun n y => aimul n y
theorem aimulr : ∀ n x : Nat, x * n < 9223372036854775808 → aint .mul .i64 (x : Int) (no_index (OfNat.ofNat n)) = some (.int .i64 ((x * n : Nat) : Int)) := fun n x => aimul x n
theorem aisub : ∀ x y : Nat, y ≤ x → x - y < 9223372036854775808 → aint .sub .i64 (x : Int) (y : Int) = some (.int .i64 ((x - y : Nat) : Int)) := fun x y h0 h => by rw [aint, ← Int.natCast_sub h0, wi64 _ (by omega) (by omega)]
theorem aisubl : ∀ n y : Nat, y ≤ n → n - y < 9223372036854775808 → aint .sub .i64 (no_index (OfNat.ofNat n)) (y : Int) = some (.int .i64 ((n - y : Nat) : Int)) := fun n y => aisub n y
theorem aisubr : ∀ n x : Nat, n ≤ x → x - n < 9223372036854775808 → aint .sub .i64 (x : Int) (no_index (OfNat.ofNat n)) = some (.int .i64 ((x - n : Nat) : Int)) := fun n x => aisub x n
theorem aiquo : ∀ x y : Nat, y ≠ 0 → x < 9223372036854775808 → aint .quo .i64 (x : Int) (y : Int) = some (.int .i64 ((x / y : Nat) : Int)) := fun x y h0 h => by rw [aint, if_neg (by omega)]; simp only [← Int.ofNat_tdiv]; have hq := Nat.div_le_self x y; generalize x / y = q at hq ⊢; rw [wi64 _ (by omega) (by omega)]
theorem aiquor : ∀ n x : Nat, n ≠ 0 → x < 9223372036854775808 → aint .quo .i64 (x : Int) (no_index (OfNat.ofNat n)) = some (.int .i64 ((x / n : Nat) : Int)) := fun n x => aiquo x n
theorem airem : ∀ x y : Nat, y ≠ 0 → x < 9223372036854775808 → aint .rem .i64 (x : Int) (y : Int) = some (.int .i64 ((x % y : Nat) : Int)) := fun x y h0 h => by rw [aint, if_neg (by omega)]; simp only [← Int.ofNat_tmod]
theorem airemr : ∀ n x : Nat, n ≠ 0 → x < 9223372036854775808 → aint .rem .i64 (x : Int) (no_index (OfNat.ofNat n)) = some (.int .i64 ((x % n : Nat) : Int)) := fun n x => airem x n
theorem ailss : ∀ x y : Nat, aint .lss .i64 (x : Int) (y : Int) = some (.bool (decide (x < y))) := fun x y => by rw [aint]; congr 2; rw [decide_eq_decide]; simp
theorem ailssl : ∀ n y : Nat, aint .lss .i64 (no_index (OfNat.ofNat n)) (y : Int) = some (.bool (decide (n < y))) := fun n y => ailss n y
theorem ailssr : ∀ n x : Nat, aint .lss .i64 (x : Int) (no_index (OfNat.ofNat n)) = some (.bool (decide (x < n))) := fun n x => ailss x n
theorem aileq : ∀ x y : Nat, aint .leq .i64 (x : Int) (y : Int) = some (.bool (decide (x ≤ y))) := fun x y => by rw [aint]; congr 2; rw [decide_eq_decide]; simp
theorem aileql : ∀ n y : Nat, aint .leq .i64 (no_index (OfNat.ofNat n)) (y : Int) = some (.bool (decide (n ≤ y))) := fun n y => aileq n y
theorem aileqr : ∀ n x : Nat, aint .leq .i64 (x : Int) (no_index (OfNat.ofNat n)) = some (.bool (decide (x ≤ n))) := fun n x => aileq x n
theorem aigtr : ∀ x y : Nat, aint .gtr .i64 (x : Int) (y : Int) = some (.bool (decide (x > y))) := fun x y => by rw [aint]; congr 2; rw [decide_eq_decide]; simp
theorem aigtrl : ∀ n y : Nat, aint .gtr .i64 (no_index (OfNat.ofNat n)) (y : Int) = some (.bool (decide (n > y))) := fun n y => aigtr n y
theorem aigtrr : ∀ n x : Nat, aint .gtr .i64 (x : Int) (no_index (OfNat.ofNat n)) = some (.bool (decide (x > n))) := fun n x => aigtr x n
theorem aigeq : ∀ x y : Nat, aint .geq .i64 (x : Int) (y : Int) = some (.bool (decide (x ≥ y))) := fun x y => by rw [aint]; congr 2; rw [decide_eq_decide]; simp
theorem aigeql : ∀ n y : Nat, aint .geq .i64 (no_index (OfNat.ofNat n)) (y : Int) = some (.bool (decide (n ≥ y))) := fun n y => aigeq n y
theorem aigeqr : ∀ n x : Nat, aint .geq .i64 (x : Int) (no_index (OfNat.ofNat n)) = some (.bool (decide (x ≥ n))) := fun n x => aigeq x n
theorem aieql : ∀ x y : Nat, aint .eql .i64 (x : Int) (y : Int) = some (.bool (x == y)) := fun x y => by rw [aint]; congr 2; rw [Bool.eq_iff_iff]; simp; try omega
theorem aieqll : ∀ n y : Nat, aint .eql .i64 (no_index (OfNat.ofNat n)) (y : Int) = some (.bool (n == y)) := fun n y => aieql n y
theorem aieqlr : ∀ n x : Nat, aint .eql .i64 (x : Int) (no_index (OfNat.ofNat n)) = some (.bool (x == n)) := fun n x => aieql x n
theorem aineq : ∀ x y : Nat, aint .neq .i64 (x : Int) (y : Int) = some (.bool (x != y)) := fun x y => by rw [aint]; congr 2; rw [Bool.eq_iff_iff]; simp; try omega
theorem aineql : ∀ n y : Nat, aint .neq .i64 (no_index (OfNat.ofNat n)) (y : Int) = some (.bool (n != y)) := fun n y => aineq n y
theorem aineqr : ∀ n x : Nat, aint .neq .i64 (x : Int) (no_index (OfNat.ofNat n)) = some (.bool (x != n)) := fun n x => aineq x n
theorem ailssll : ∀ n y : Nat, aint .lss .i64 (no_index (OfNat.ofNat n)) (no_index (OfNat.ofNat y)) = some (.bool (decide (n < y))) := fun n y => ailss n y
theorem aileqll : ∀ n y : Nat, aint .leq .i64 (no_index (OfNat.ofNat n)) (no_index (OfNat.ofNat y)) = some (.bool (decide (n ≤ y))) := fun n y => aileq n y
theorem aigtrll : ∀ n y : Nat, aint .gtr .i64 (no_index (OfNat.ofNat n)) (no_index (OfNat.ofNat y)) = some (.bool (decide (n > y))) := fun n y => aigtr n y
theorem aigeqll : ∀ n y : Nat, aint .geq .i64 (no_index (OfNat.ofNat n)) (no_index (OfNat.ofNat y)) = some (.bool (decide (n ≥ y))) := fun n y => aigeq n y
theorem aieqlll : ∀ n y : Nat, aint .eql .i64 (no_index (OfNat.ofNat n)) (no_index (OfNat.ofNat y)) = some (.bool (n == y)) := fun n y => aieql n y
theorem aineqll : ∀ n y : Nat, aint .neq .i64 (no_index (OfNat.ofNat n)) (no_index (OfNat.ofNat y)) = some (.bool (n != y)) := fun n y => aineq n y
theorem aiaddll : ∀ n y : Nat, n + y < 9223372036854775808 → aint .add .i64 (no_index (OfNat.ofNat n)) (no_index (OfNat.ofNat y)) = some (.int .i64 ((n + y : Nat) : Int)) := fun n y => aiadd n y
theorem aimulll : ∀ n y : Nat, n * y < 9223372036854775808 → aint .mul .i64 (no_index (OfNat.ofNat n)) (no_index (OfNat.ofNat y)) = some (.int .i64 ((n * y : Nat) : Int)) := fun n y => aimul n y
theorem nn : ∀ n : Nat, (0 : Int) ≤ (n : Int) := fun n => Int.natCast_nonneg n
theorem nneg : ∀ n : Nat, ((n : Int) < 0) = False := fun n => by simp
theorem tn : ∀ n : Nat, ((n : Int)).toNat = n := fun n => Int.toNat_natCast n
theorem ltn : ∀ m n : Nat, ((m : Int) < (n : Int)) = (m < n) := fun m n => by simp
theorem len : ∀ m n : Nat, ((m : Int) ≤ (n : Int)) = (m ≤ n) := fun m n => by simp
theorem am : (∀ x y : UInt8, aint .add .u8 (x.toNat : Int) (y.toNat : Int) = some (.int .u8 ((x + y).toNat : Int))) ∧
  (∀ (n : Nat) (y : UInt8), n < 256 → aint .add .u8 (no_index (OfNat.ofNat n)) (y.toNat : Int) = some (.int .u8 (((OfNat.ofNat n : UInt8) + y).toNat : Int))) ∧
  (∀ (n : Nat) (x : UInt8), n < 256 → aint .add .u8 (x.toNat : Int) (no_index (OfNat.ofNat n)) = some (.int .u8 ((x + (OfNat.ofNat n : UInt8)).toNat : Int))) ∧
  (∀ x y : UInt8, aint .sub .u8 (x.toNat : Int) (y.toNat : Int) = some (.int .u8 ((x - y).toNat : Int))) ∧
  (∀ (n : Nat) (y : UInt8), n < 256 → aint .sub .u8 (no_index (OfNat.ofNat n)) (y.toNat : Int) = some (.int .u8 (((OfNat.ofNat n : UInt8) - y).toNat : Int))) ∧
  (∀ (n : Nat) (x : UInt8), n < 256 → aint .sub .u8 (x.toNat : Int) (no_index (OfNat.ofNat n)) = some (.int .u8 ((x - (OfNat.ofNat n : UInt8)).toNat : Int))) ∧
  (∀ x y : UInt8, aint .mul .u8 (x.toNat : Int) (y.toNat : Int) = some (.int .u8 ((x * y).toNat : Int))) ∧
  (∀ (n : Nat) (y : UInt8), n < 256 → aint .mul .u8 (no_index (OfNat.ofNat n)) (y.toNat : Int) = some (.int .u8 (((OfNat.ofNat n : UInt8) * y).toNat : Int))) ∧
  (∀ (n : Nat) (x : UInt8), n < 256 → aint .mul .u8 (x.toNat : Int) (no_index (OfNat.ofNat n)) = some (.int .u8 ((x * (OfNat.ofNat n : UInt8)).toNat : Int))) ∧
  (∀ x y : UInt8, aint .and .u8 (x.toNat : Int) (y.toNat : Int) = some (.int .u8 ((x &&& y).toNat : Int))) ∧
  (∀ (n : Nat) (y : UInt8), n < 256 → aint .and .u8 (no_index (OfNat.ofNat n)) (y.toNat : Int) = some (.int .u8 (((OfNat.ofNat n : UInt8) &&& y).toNat : Int))) ∧
  (∀ (n : Nat) (x : UInt8), n < 256 → aint .and .u8 (x.toNat : Int) (no_index (OfNat.ofNat n)) = some (.int .u8 ((x &&& (OfNat.ofNat n : UInt8)).toNat : Int))) ∧
  (∀ x y : UInt8, aint .or .u8 (x.toNat : Int) (y.toNat : Int) = some (.int .u8 ((x ||| y).toNat : Int))) ∧
  (∀ (n : Nat) (y : UInt8), n < 256 → aint .or .u8 (no_index (OfNat.ofNat n)) (y.toNat : Int) = some (.int .u8 (((OfNat.ofNat n : UInt8) ||| y).toNat : Int))) ∧
  (∀ (n : Nat) (x : UInt8), n < 256 → aint .or .u8 (x.toNat : Int) (no_index (OfNat.ofNat n)) = some (.int .u8 ((x ||| (OfNat.ofNat n : UInt8)).toNat : Int))) ∧
  (∀ x y : UInt8, aint .xor .u8 (x.toNat : Int) (y.toNat : Int) = some (.int .u8 ((x ^^^ y).toNat : Int))) ∧
  (∀ (n : Nat) (y : UInt8), n < 256 → aint .xor .u8 (no_index (OfNat.ofNat n)) (y.toNat : Int) = some (.int .u8 (((OfNat.ofNat n : UInt8) ^^^ y).toNat : Int))) ∧
  (∀ (n : Nat) (x : UInt8), n < 256 → aint .xor .u8 (x.toNat : Int) (no_index (OfNat.ofNat n)) = some (.int .u8 ((x ^^^ (OfNat.ofNat n : UInt8)).toNat : Int))) ∧
  (∀ (n : Nat) (x : UInt8), n < 256 → n ≠ 0 → aint .quo .u8 (x.toNat : Int) (no_index (OfNat.ofNat n)) = some (.int .u8 ((x / (OfNat.ofNat n : UInt8)).toNat : Int))) ∧
  (∀ (n : Nat) (x : UInt8), n < 256 → n ≠ 0 → aint .rem .u8 (x.toNat : Int) (no_index (OfNat.ofNat n)) = some (.int .u8 ((x % (OfNat.ofNat n : UInt8)).toNat : Int))) ∧
  (∀ (x y : UInt8), y ≠ 0 → aint .quo .u8 (x.toNat : Int) (y.toNat : Int) = some (.int .u8 ((x / y).toNat : Int))) ∧
  (∀ (x y : UInt8), y ≠ 0 → aint .rem .u8 (x.toNat : Int) (y.toNat : Int) = some (.int .u8 ((x % y).toNat : Int))) ∧
  (∀ (x : UInt8) (s : Int), 0 ≤ s → s < 8 → ashift .shl .u8 (x.toNat : Int) s = some (.int .u8 ((x <<< (UInt8.ofNat s.toNat)).toNat : Int))) ∧
  (∀ (x : UInt8) (s : Int), 0 ≤ s → s < 8 → ashift .shr .u8 (x.toNat : Int) s = some (.int .u8 ((x >>> (UInt8.ofNat s.toNat)).toNat : Int))) ∧
  (∀ x y : UInt8, aint .eql .u8 (x.toNat : Int) (y.toNat : Int) = some (.bool (x == y))) ∧
  (∀ (n : Nat) (x : UInt8), n < 256 → aint .eql .u8 (x.toNat : Int) (no_index (OfNat.ofNat n)) = some (.bool (x == (OfNat.ofNat n : UInt8)))) ∧
  (∀ x y : UInt8, aint .neq .u8 (x.toNat : Int) (y.toNat : Int) = some (.bool (x != y))) ∧
  (∀ (n : Nat) (x : UInt8), n < 256 → aint .neq .u8 (x.toNat : Int) (no_index (OfNat.ofNat n)) = some (.bool (x != (OfNat.ofNat n : UInt8)))) ∧
  (∀ x y : UInt8, aint .lss .u8 (x.toNat : Int) (y.toNat : Int) = some (.bool (decide (x.toNat < y.toNat)))) ∧
  (∀ (n : Nat) (x : UInt8), aint .lss .u8 (x.toNat : Int) (no_index (OfNat.ofNat n)) = some (.bool (decide (x.toNat < n)))) ∧
  (∀ x y : UInt8, aint .leq .u8 (x.toNat : Int) (y.toNat : Int) = some (.bool (decide (x.toNat ≤ y.toNat)))) ∧
  (∀ (n : Nat) (x : UInt8), aint .leq .u8 (x.toNat : Int) (no_index (OfNat.ofNat n)) = some (.bool (decide (x.toNat ≤ n)))) ∧
  (∀ x y : UInt8, aint .gtr .u8 (x.toNat : Int) (y.toNat : Int) = some (.bool (decide (x.toNat > y.toNat)))) ∧
  (∀ (n : Nat) (x : UInt8), aint .gtr .u8 (x.toNat : Int) (no_index (OfNat.ofNat n)) = some (.bool (decide (x.toNat > n)))) ∧
  (∀ x y : UInt8, aint .geq .u8 (x.toNat : Int) (y.toNat : Int) = some (.bool (decide (x.toNat ≥ y.toNat)))) ∧
  (∀ (n : Nat) (x : UInt8), aint .geq .u8 (x.toNat : Int) (no_index (OfNat.ofNat n)) = some (.bool (decide (x.toNat ≥ n)))) ∧
  (∀ x y : UInt32, aint .add .u32 (x.toNat : Int) (y.toNat : Int) = some (.int .u32 ((x + y).toNat : Int))) ∧
  (∀ (n : Nat) (y : UInt32), n < 4294967296 → aint .add .u32 (no_index (OfNat.ofNat n)) (y.toNat : Int) = some (.int .u32 (((OfNat.ofNat n : UInt32) + y).toNat : Int))) ∧
  (∀ (n : Nat) (x : UInt32), n < 4294967296 → aint .add .u32 (x.toNat : Int) (no_index (OfNat.ofNat n)) = some (.int .u32 ((x + (OfNat.ofNat n : UInt32)).toNat : Int))) ∧
  (∀ x y : UInt32, aint .sub .u32 (x.toNat : Int) (y.toNat : Int) = some (.int .u32 ((x - y).toNat : Int))) ∧
  (∀ (n : Nat) (y : UInt32), n < 4294967296 → aint .sub .u32 (no_index (OfNat.ofNat n)) (y.toNat : Int) = some (.int .u32 (((OfNat.ofNat n : UInt32) - y).toNat : Int))) ∧
  (∀ (n : Nat) (x : UInt32), n < 4294967296 → aint .sub .u32 (x.toNat : Int) (no_index (OfNat.ofNat n)) = some (.int .u32 ((x - (OfNat.ofNat n : UInt32)).toNat : Int))) ∧
  (∀ x y : UInt32, aint .mul .u32 (x.toNat : Int) (y.toNat : Int) = some (.int .u32 ((x * y).toNat : Int))) ∧
  (∀ (n : Nat) (y : UInt32), n < 4294967296 → aint .mul .u32 (no_index (OfNat.ofNat n)) (y.toNat : Int) = some (.int .u32 (((OfNat.ofNat n : UInt32) * y).toNat : Int))) ∧
  (∀ (n : Nat) (x : UInt32), n < 4294967296 → aint .mul .u32 (x.toNat : Int) (no_index (OfNat.ofNat n)) = some (.int .u32 ((x * (OfNat.ofNat n : UInt32)).toNat : Int))) ∧
  (∀ x y : UInt32, aint .and .u32 (x.toNat : Int) (y.toNat : Int) = some (.int .u32 ((x &&& y).toNat : Int))) ∧
  (∀ (n : Nat) (y : UInt32), n < 4294967296 → aint .and .u32 (no_index (OfNat.ofNat n)) (y.toNat : Int) = some (.int .u32 (((OfNat.ofNat n : UInt32) &&& y).toNat : Int))) ∧
  (∀ (n : Nat) (x : UInt32), n < 4294967296 → aint .and .u32 (x.toNat : Int) (no_index (OfNat.ofNat n)) = some (.int .u32 ((x &&& (OfNat.ofNat n : UInt32)).toNat : Int))) ∧
  (∀ x y : UInt32, aint .or .u32 (x.toNat : Int) (y.toNat : Int) = some (.int .u32 ((x ||| y).toNat : Int))) ∧
  (∀ (n : Nat) (y : UInt32), n < 4294967296 → aint .or .u32 (no_index (OfNat.ofNat n)) (y.toNat : Int) = some (.int .u32 (((OfNat.ofNat n : UInt32) ||| y).toNat : Int))) ∧
  (∀ (n : Nat) (x : UInt32), n < 4294967296 → aint .or .u32 (x.toNat : Int) (no_index (OfNat.ofNat n)) = some (.int .u32 ((x ||| (OfNat.ofNat n : UInt32)).toNat : Int))) ∧
  (∀ x y : UInt32, aint .xor .u32 (x.toNat : Int) (y.toNat : Int) = some (.int .u32 ((x ^^^ y).toNat : Int))) ∧
  (∀ (n : Nat) (y : UInt32), n < 4294967296 → aint .xor .u32 (no_index (OfNat.ofNat n)) (y.toNat : Int) = some (.int .u32 (((OfNat.ofNat n : UInt32) ^^^ y).toNat : Int))) ∧
  (∀ (n : Nat) (x : UInt32), n < 4294967296 → aint .xor .u32 (x.toNat : Int) (no_index (OfNat.ofNat n)) = some (.int .u32 ((x ^^^ (OfNat.ofNat n : UInt32)).toNat : Int))) ∧
  (∀ (n : Nat) (x : UInt32), n < 4294967296 → n ≠ 0 → aint .quo .u32 (x.toNat : Int) (no_index (OfNat.ofNat n)) = some (.int .u32 ((x / (OfNat.ofNat n : UInt32)).toNat : Int))) ∧
  (∀ (n : Nat) (x : UInt32), n < 4294967296 → n ≠ 0 → aint .rem .u32 (x.toNat : Int) (no_index (OfNat.ofNat n)) = some (.int .u32 ((x % (OfNat.ofNat n : UInt32)).toNat : Int))) ∧
  (∀ (x y : UInt32), y ≠ 0 → aint .quo .u32 (x.toNat : Int) (y.toNat : Int) = some (.int .u32 ((x / y).toNat : Int))) ∧
  (∀ (x y : UInt32), y ≠ 0 → aint .rem .u32 (x.toNat : Int) (y.toNat : Int) = some (.int .u32 ((x % y).toNat : Int))) ∧
  (∀ (x : UInt32) (s : Int), 0 ≤ s → s < 32 → ashift .shl .u32 (x.toNat : Int) s = some (.int .u32 ((x <<< (UInt32.ofNat s.toNat)).toNat : Int))) ∧
  (∀ (x : UInt32) (s : Int), 0 ≤ s → s < 32 → ashift .shr .u32 (x.toNat : Int) s = some (.int .u32 ((x >>> (UInt32.ofNat s.toNat)).toNat : Int))) ∧
  (∀ x y : UInt32, aint .eql .u32 (x.toNat : Int) (y.toNat : Int) = some (.bool (x == y))) ∧
  (∀ (n : Nat) (x : UInt32), n < 4294967296 → aint .eql .u32 (x.toNat : Int) (no_index (OfNat.ofNat n)) = some (.bool (x == (OfNat.ofNat n : UInt32)))) ∧
  (∀ x y : UInt32, aint .neq .u32 (x.toNat : Int) (y.toNat : Int) = some (.bool (x != y))) ∧
  (∀ (n : Nat) (x : UInt32), n < 4294967296 → aint .neq .u32 (x.toNat : Int) (no_index (OfNat.ofNat n)) = some (.bool (x != (OfNat.ofNat n : UInt32)))) ∧
  (∀ x y : UInt32, aint .lss .u32 (x.toNat : Int) (y.toNat : Int) = some (.bool (decide (x.toNat < y.toNat)))) ∧
  (∀ (n : Nat) (x : UInt32), aint .lss .u32 (x.toNat : Int) (no_index (OfNat.ofNat n)) = some (.bool (decide (x.toNat < n)))) ∧
  (∀ x y : UInt32, aint .leq .u32 (x.toNat : Int) (y.toNat : Int) = some (.bool (decide (x.toNat ≤ y.toNat)))) ∧
  (∀ (n : Nat) (x : UInt32), aint .leq .u32 (x.toNat : Int) (no_index (OfNat.ofNat n)) = some (.bool (decide (x.toNat ≤ n)))) ∧
  (∀ x y : UInt32, aint .gtr .u32 (x.toNat : Int) (y.toNat : Int) = some (.bool (decide (x.toNat > y.toNat)))) ∧
  (∀ (n : Nat) (x : UInt32), aint .gtr .u32 (x.toNat : Int) (no_index (OfNat.ofNat n)) = some (.bool (decide (x.toNat > n)))) ∧
  (∀ x y : UInt32, aint .geq .u32 (x.toNat : Int) (y.toNat : Int) = some (.bool (decide (x.toNat ≥ y.toNat)))) ∧
  (∀ (n : Nat) (x : UInt32), aint .geq .u32 (x.toNat : Int) (no_index (OfNat.ofNat n)) = some (.bool (decide (x.toNat ≥ n)))) ∧
  (∀ x y : UInt64, aint .add .u64 (x.toNat : Int) (y.toNat : Int) = some (.int .u64 ((x + y).toNat : Int))) ∧
  (∀ (n : Nat) (y : UInt64), n < 18446744073709551616 → aint .add .u64 (no_index (OfNat.ofNat n)) (y.toNat : Int) = some (.int .u64 (((OfNat.ofNat n : UInt64) + y).toNat : Int))) ∧
  (∀ (n : Nat) (x : UInt64), n < 18446744073709551616 → aint .add .u64 (x.toNat : Int) (no_index (OfNat.ofNat n)) = some (.int .u64 ((x + (OfNat.ofNat n : UInt64)).toNat : Int))) ∧
  (∀ x y : UInt64, aint .sub .u64 (x.toNat : Int) (y.toNat : Int) = some (.int .u64 ((x - y).toNat : Int))) ∧
  (∀ (n : Nat) (y : UInt64), n < 18446744073709551616 → aint .sub .u64 (no_index (OfNat.ofNat n)) (y.toNat : Int) = some (.int .u64 (((OfNat.ofNat n : UInt64) - y).toNat : Int))) ∧
  (∀ (n : Nat) (x : UInt64), n < 18446744073709551616 → aint .sub .u64 (x.toNat : Int) (no_index (OfNat.ofNat n)) = some (.int .u64 ((x - (OfNat.ofNat n : UInt64)).toNat : Int))) ∧
  (∀ x y : UInt64, aint .mul .u64 (x.toNat : Int) (y.toNat : Int) = some (.int .u64 ((x * y).toNat : Int))) ∧
  (∀ (n : Nat) (y : UInt64), n < 18446744073709551616 → aint .mul .u64 (no_index (OfNat.ofNat n)) (y.toNat : Int) = some (.int .u64 (((OfNat.ofNat n : UInt64) * y).toNat : Int))) ∧
  (∀ (n : Nat) (x : UInt64), n < 18446744073709551616 → aint .mul .u64 (x.toNat : Int) (no_index (OfNat.ofNat n)) = some (.int .u64 ((x * (OfNat.ofNat n : UInt64)).toNat : Int))) ∧
  (∀ x y : UInt64, aint .and .u64 (x.toNat : Int) (y.toNat : Int) = some (.int .u64 ((x &&& y).toNat : Int))) ∧
  (∀ (n : Nat) (y : UInt64), n < 18446744073709551616 → aint .and .u64 (no_index (OfNat.ofNat n)) (y.toNat : Int) = some (.int .u64 (((OfNat.ofNat n : UInt64) &&& y).toNat : Int))) ∧
  (∀ (n : Nat) (x : UInt64), n < 18446744073709551616 → aint .and .u64 (x.toNat : Int) (no_index (OfNat.ofNat n)) = some (.int .u64 ((x &&& (OfNat.ofNat n : UInt64)).toNat : Int))) ∧
  (∀ x y : UInt64, aint .or .u64 (x.toNat : Int) (y.toNat : Int) = some (.int .u64 ((x ||| y).toNat : Int))) ∧
  (∀ (n : Nat) (y : UInt64), n < 18446744073709551616 → aint .or .u64 (no_index (OfNat.ofNat n)) (y.toNat : Int) = some (.int .u64 (((OfNat.ofNat n : UInt64) ||| y).toNat : Int))) ∧
  (∀ (n : Nat) (x : UInt64), n < 18446744073709551616 → aint .or .u64 (x.toNat : Int) (no_index (OfNat.ofNat n)) = some (.int .u64 ((x ||| (OfNat.ofNat n : UInt64)).toNat : Int))) ∧
  (∀ x y : UInt64, aint .xor .u64 (x.toNat : Int) (y.toNat : Int) = some (.int .u64 ((x ^^^ y).toNat : Int))) ∧
  (∀ (n : Nat) (y : UInt64), n < 18446744073709551616 → aint .xor .u64 (no_index (OfNat.ofNat n)) (y.toNat : Int) = some (.int .u64 (((OfNat.ofNat n : UInt64) ^^^ y).toNat : Int))) ∧
  (∀ (n : Nat) (x : UInt64), n < 18446744073709551616 → aint .xor .u64 (x.toNat : Int) (no_index (OfNat.ofNat n)) = some (.int .u64 ((x ^^^ (OfNat.ofNat n : UInt64)).toNat : Int))) ∧
  (∀ (n : Nat) (x : UInt64), n < 18446744073709551616 → n ≠ 0 → aint .quo .u64 (x.toNat : Int) (no_index (OfNat.ofNat n)) = some (.int .u64 ((x / (OfNat.ofNat n : UInt64)).toNat : Int))) ∧
  (∀ (n : Nat) (x : UInt64), n < 18446744073709551616 → n ≠ 0 → aint .rem .u64 (x.toNat : Int) (no_index (OfNat.ofNat n)) = some (.int .u64 ((x % (OfNat.ofNat n : UInt64)).toNat : Int))) ∧
  (∀ (x y : UInt64), y ≠ 0 → aint .quo .u64 (x.toNat : Int) (y.toNat : Int) = some (.int .u64 ((x / y).toNat : Int))) ∧
  (∀ (x y : UInt64), y ≠ 0 → aint .rem .u64 (x.toNat : Int) (y.toNat : Int) = some (.int .u64 ((x % y).toNat : Int))) ∧
  (∀ (x : UInt64) (s : Int), 0 ≤ s → s < 64 → ashift .shl .u64 (x.toNat : Int) s = some (.int .u64 ((x <<< (UInt64.ofNat s.toNat)).toNat : Int))) ∧
  (∀ (x : UInt64) (s : Int), 0 ≤ s → s < 64 → ashift .shr .u64 (x.toNat : Int) s = some (.int .u64 ((x >>> (UInt64.ofNat s.toNat)).toNat : Int))) ∧
  (∀ x y : UInt64, aint .eql .u64 (x.toNat : Int) (y.toNat : Int) = some (.bool (x == y))) ∧
  (∀ (n : Nat) (x : UInt64), n < 18446744073709551616 → aint .eql .u64 (x.toNat : Int) (no_index (OfNat.ofNat n)) = some (.bool (x == (OfNat.ofNat n : UInt64)))) ∧
  (∀ x y : UInt64, aint .neq .u64 (x.toNat : Int) (y.toNat : Int) = some (.bool (x != y))) ∧
  (∀ (n : Nat) (x : UInt64), n < 18446744073709551616 → aint .neq .u64 (x.toNat : Int) (no_index (OfNat.ofNat n)) = some (.bool (x != (OfNat.ofNat n : UInt64)))) ∧
  (∀ x y : UInt64, aint .lss .u64 (x.toNat : Int) (y.toNat : Int) = some (.bool (decide (x.toNat < y.toNat)))) ∧
  (∀ (n : Nat) (x : UInt64), aint .lss .u64 (x.toNat : Int) (no_index (OfNat.ofNat n)) = some (.bool (decide (x.toNat < n)))) ∧
  (∀ x y : UInt64, aint .leq .u64 (x.toNat : Int) (y.toNat : Int) = some (.bool (decide (x.toNat ≤ y.toNat)))) ∧
  (∀ (n : Nat) (x : UInt64), aint .leq .u64 (x.toNat : Int) (no_index (OfNat.ofNat n)) = some (.bool (decide (x.toNat ≤ n)))) ∧
  (∀ x y : UInt64, aint .gtr .u64 (x.toNat : Int) (y.toNat : Int) = some (.bool (decide (x.toNat > y.toNat)))) ∧
  (∀ (n : Nat) (x : UInt64), aint .gtr .u64 (x.toNat : Int) (no_index (OfNat.ofNat n)) = some (.bool (decide (x.toNat > n)))) ∧
  (∀ x y : UInt64, aint .geq .u64 (x.toNat : Int) (y.toNat : Int) = some (.bool (decide (x.toNat ≥ y.toNat)))) ∧
  (∀ (n : Nat) (x : UInt64), aint .geq .u64 (x.toNat : Int) (no_index (OfNat.ofNat n)) = some (.bool (decide (x.toNat ≥ n)))) ∧
  (∀ x : UInt8, IntKind.u8.wrap (x.toNat : Int) = (x.toNat : Int)) ∧
  (∀ x : UInt8, IntKind.u32.wrap (x.toNat : Int) = ((x.toUInt32).toNat : Int)) ∧
  (∀ x : UInt8, IntKind.u64.wrap (x.toNat : Int) = ((x.toUInt64).toNat : Int)) ∧
  (∀ x : UInt8, IntKind.i64.wrap (x.toNat : Int) = (x.toNat : Int)) ∧
  (∀ x : UInt32, IntKind.u8.wrap (x.toNat : Int) = ((x.toUInt8).toNat : Int)) ∧
  (∀ x : UInt32, IntKind.u32.wrap (x.toNat : Int) = (x.toNat : Int)) ∧
  (∀ x : UInt32, IntKind.u64.wrap (x.toNat : Int) = ((x.toUInt64).toNat : Int)) ∧
  (∀ x : UInt32, IntKind.i64.wrap (x.toNat : Int) = (x.toNat : Int)) ∧
  (∀ x : UInt64, IntKind.u8.wrap (x.toNat : Int) = ((x.toUInt8).toNat : Int)) ∧
  (∀ x : UInt64, IntKind.u32.wrap (x.toNat : Int) = ((x.toUInt32).toNat : Int)) ∧
  (∀ x : UInt64, IntKind.u64.wrap (x.toNat : Int) = (x.toNat : Int)) ∧
  (∀ x y : Nat, x + y < 9223372036854775808 → aint .add .i64 (x : Int) (y : Int) = some (.int .i64 ((x + y : Nat) : Int))) ∧
  (∀ n y : Nat, n + y < 9223372036854775808 → aint .add .i64 (no_index (OfNat.ofNat n)) (y : Int) = some (.int .i64 ((n + y : Nat) : Int))) ∧
  (∀ n x : Nat, x + n < 9223372036854775808 → aint .add .i64 (x : Int) (no_index (OfNat.ofNat n)) = some (.int .i64 ((x + n : Nat) : Int))) ∧
  (∀ x y : Nat, x * y < 9223372036854775808 → aint .mul .i64 (x : Int) (y : Int) = some (.int .i64 ((x * y : Nat) : Int))) ∧
  (∀ n y : Nat, n * y < 9223372036854775808 → aint .mul .i64 (no_index (OfNat.ofNat n)) (y : Int) = some (.int .i64 ((n * y : Nat) : Int))) ∧
  (∀ n x : Nat, x * n < 9223372036854775808 → aint .mul .i64 (x : Int) (no_index (OfNat.ofNat n)) = some (.int .i64 ((x * n : Nat) : Int))) ∧
  (∀ x y : Nat, y ≤ x → x - y < 9223372036854775808 → aint .sub .i64 (x : Int) (y : Int) = some (.int .i64 ((x - y : Nat) : Int))) ∧
  (∀ n y : Nat, y ≤ n → n - y < 9223372036854775808 → aint .sub .i64 (no_index (OfNat.ofNat n)) (y : Int) = some (.int .i64 ((n - y : Nat) : Int))) ∧
  (∀ n x : Nat, n ≤ x → x - n < 9223372036854775808 → aint .sub .i64 (x : Int) (no_index (OfNat.ofNat n)) = some (.int .i64 ((x - n : Nat) : Int))) ∧
  (∀ x y : Nat, y ≠ 0 → x < 9223372036854775808 → aint .quo .i64 (x : Int) (y : Int) = some (.int .i64 ((x / y : Nat) : Int))) ∧
  (∀ n x : Nat, n ≠ 0 → x < 9223372036854775808 → aint .quo .i64 (x : Int) (no_index (OfNat.ofNat n)) = some (.int .i64 ((x / n : Nat) : Int))) ∧
  (∀ x y : Nat, y ≠ 0 → x < 9223372036854775808 → aint .rem .i64 (x : Int) (y : Int) = some (.int .i64 ((x % y : Nat) : Int))) ∧
  (∀ n x : Nat, n ≠ 0 → x < 9223372036854775808 → aint .rem .i64 (x : Int) (no_index (OfNat.ofNat n)) = some (.int .i64 ((x % n : Nat) : Int))) ∧
  (∀ x y : Nat, aint .lss .i64 (x : Int) (y : Int) = some (.bool (decide (x < y)))) ∧
  (∀ n y : Nat, aint .lss .i64 (no_index (OfNat.ofNat n)) (y : Int) = some (.bool (decide (n < y)))) ∧
  (∀ n x : Nat, aint .lss .i64 (x : Int) (no_index (OfNat.ofNat n)) = some (.bool (decide (x < n)))) ∧
  (∀ x y : Nat, aint .leq .i64 (x : Int) (y : Int) = some (.bool (decide (x ≤ y)))) ∧
  (∀ n y : Nat, aint .leq .i64 (no_index (OfNat.ofNat n)) (y : Int) = some (.bool (decide (n ≤ y)))) ∧
  (∀ n x : Nat, aint .leq .i64 (x : Int) (no_index (OfNat.ofNat n)) = some (.bool (decide (x ≤ n)))) ∧
  (∀ x y : Nat, aint .gtr .i64 (x : Int) (y : Int) = some (.bool (decide (x > y)))) ∧
  (∀ n y : Nat, aint .gtr .i64 (no_index (OfNat.ofNat n)) (y : Int) = some (.bool (decide (n > y)))) ∧
  (∀ n x : Nat, aint .gtr .i64 (x : Int) (no_index (OfNat.ofNat n)) = some (.bool (decide (x > n)))) ∧
  (∀ x y : Nat, aint .geq .i64 (x : Int) (y : Int) = some (.bool (decide (x ≥ y)))) ∧
  (∀ n y : Nat, aint .geq .i64 (no_index (OfNat.ofNat n)) (y : Int) = some (.bool (decide (n ≥ y)))) ∧
  (∀ n x : Nat, aint .geq .i64 (x : Int) (no_index (OfNat.ofNat n)) = some (.bool (decide (x ≥ n)))) ∧
  (∀ x y : Nat, aint .eql .i64 (x : Int) (y : Int) = some (.bool (x == y))) ∧
  (∀ n y : Nat, aint .eql .i64 (no_index (OfNat.ofNat n)) (y : Int) = some (.bool (n == y))) ∧
  (∀ n x : Nat, aint .eql .i64 (x : Int) (no_index (OfNat.ofNat n)) = some (.bool (x == n))) ∧
  (∀ x y : Nat, aint .neq .i64 (x : Int) (y : Int) = some (.bool (x != y))) ∧
  (∀ n y : Nat, aint .neq .i64 (no_index (OfNat.ofNat n)) (y : Int) = some (.bool (n != y))) ∧
  (∀ n x : Nat, aint .neq .i64 (x : Int) (no_index (OfNat.ofNat n)) = some (.bool (x != n))) ∧
  (∀ n y : Nat, aint .lss .i64 (no_index (OfNat.ofNat n)) (no_index (OfNat.ofNat y)) = some (.bool (decide (n < y)))) ∧
  (∀ n y : Nat, aint .leq .i64 (no_index (OfNat.ofNat n)) (no_index (OfNat.ofNat y)) = some (.bool (decide (n ≤ y)))) ∧
  (∀ n y : Nat, aint .gtr .i64 (no_index (OfNat.ofNat n)) (no_index (OfNat.ofNat y)) = some (.bool (decide (n > y)))) ∧
  (∀ n y : Nat, aint .geq .i64 (no_index (OfNat.ofNat n)) (no_index (OfNat.ofNat y)) = some (.bool (decide (n ≥ y)))) ∧
  (∀ n y : Nat, aint .eql .i64 (no_index (OfNat.ofNat n)) (no_index (OfNat.ofNat y)) = some (.bool (n == y))) ∧
  (∀ n y : Nat, aint .neq .i64 (no_index (OfNat.ofNat n)) (no_index (OfNat.ofNat y)) = some (.bool (n != y))) ∧
  (∀ n y : Nat, n + y < 9223372036854775808 → aint .add .i64 (no_index (OfNat.ofNat n)) (no_index (OfNat.ofNat y)) = some (.int .i64 ((n + y : Nat) : Int))) ∧
  (∀ n y : Nat, n * y < 9223372036854775808 → aint .mul .i64 (no_index (OfNat.ofNat n)) (no_index (OfNat.ofNat y)) = some (.int .i64 ((n * y : Nat) : Int))) ∧
  (∀ n : Nat, (0 : Int) ≤ (n : Int)) ∧
  (∀ n : Nat, ((n : Int) < 0) = False) ∧
  (∀ n : Nat, ((n : Int)).toNat = n) ∧
  (∀ m n : Nat, ((m : Int) < (n : Int)) = (m < n)) ∧
  (∀ m n : Nat, ((m : Int) ≤ (n : Int)) = (m ≤ n)) := ⟨aadd8, aadd8l, aadd8r, asub8, asub8l, asub8r, amul8, amul8l, amul8r, aand8, aand8l, aand8r, aor8, aor8l, aor8r, axor8, axor8l, axor8r, aquo8r, arem8r, aquo8, arem8, ashl8, ashr8, aeql8, aeql8r, aneq8, aneq8r, alss8, alss8r, aleq8, aleq8r, agtr8, agtr8r, ageq8, ageq8r, aadd32, aadd32l, aadd32r, asub32, asub32l, asub32r, amul32, amul32l, amul32r, aand32, aand32l, aand32r, aor32, aor32l, aor32r, axor32, axor32l, axor32r, aquo32r, arem32r, aquo32, arem32, ashl32, ashr32, aeql32, aeql32r, aneq32, aneq32r, alss32, alss32r, aleq32, aleq32r, agtr32, agtr32r, ageq32, ageq32r, aadd64, aadd64l, aadd64r, asub64, asub64l, asub64r, amul64, amul64l, amul64r, aand64, aand64l, aand64r, aor64, aor64l, aor64r, axor64, axor64l, axor64r, aquo64r, arem64r, aquo64, arem64, ashl64, ashr64, aeql64, aeql64r, aneq64, aneq64r, alss64, alss64r, aleq64, aleq64r, agtr64, agtr64r, ageq64, ageq64r, cv88, cv832, cv864, cvi8, cv328, cv3232, cv3264, cvi32, cv648, cv6432, cv6464, aiadd, aiaddl, aiaddr, aimul, aimull, aimulr, aisub, aisubl, aisubr, aiquo, aiquor, airem, airemr, ailss, ailssl, ailssr, aileq, aileql, aileqr, aigtr, aigtrl, aigtrr, aigeq, aigeql, aigeqr, aieql, aieqll, aieqlr, aineq, aineql, aineqr, ailssll, aileqll, aigtrll, aigeqll, aieqlll, aineqll, aiaddll, aimulll, nn, nneg, tn, ltn, len⟩
end Go.Proofs.YtldfnfpinemedaaDoor
