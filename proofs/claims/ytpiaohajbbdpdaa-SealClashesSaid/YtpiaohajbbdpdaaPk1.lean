/- pack, plainly: a number's bytes, the number of bytes, a reader. -/
import Derived.Test.YtpiaohajbbdpdaaC6
import Derived.Test.YtpiaohajbbdpdaaRot
import Derived.Test.YtpiaohajbbdpdaaCsm
namespace Go.Proofs.Ytpiaohajbbdpdaa
open Go Go.RowKit
set_option linter.unusedSimpArgs false
set_option linter.unusedVariables false
set_option maxRecDepth 4000
/-- A number's low bytes, the lowest first. -/
def numB (x : UInt64) : Nat → List UInt8
  | 0 => []
  | k + 1 => x.toUInt8 :: numB (x >>> 8) k
/-- The number of bytes, the lowest first. -/
def leNat : List UInt8 → Nat
  | [] => 0
  | x :: l => x.toNat + 256 * leNat l
def leN (l : List UInt8) : UInt64 := UInt64.ofNat (leNat l)
theorem numB_length (x : UInt64) (k : Nat) : (numB x k).length = k := by
  induction k generalizing x with
  | zero => rfl
  | succ k ih => rw [numB, List.length_cons, ih]
theorem leNat_lt (l : List UInt8) : leNat l < 256 ^ l.length := by
  induction l with
  | nil => simp [leNat]
  | cons x l ih =>
    rw [leNat, List.length_cons, Nat.pow_succ]
    have := x.toNat_lt
    omega
theorem leNat_append (a b : List UInt8) : leNat (a ++ b) = leNat a + 256 ^ a.length * leNat b := by
  induction a with
  | nil => simp [leNat]
  | cons x a ih =>
    rw [List.cons_append, leNat, leNat, ih, List.length_cons, Nat.pow_succ, Nat.mul_add, Nat.mul_comm (256 ^ a.length) 256, Nat.mul_assoc]
    omega
theorem sh8 (x : UInt64) : (x >>> 8).toNat = x.toNat / 256 := by simp [UInt64.toNat_shiftRight, Nat.shiftRight_eq_div_pow]
theorem leNat_numB (x : UInt64) (k : Nat) : leNat (numB x k) = x.toNat % 256 ^ k := by
  induction k generalizing x with
  | zero => rw [numB, leNat, Nat.pow_zero, Nat.mod_one]
  | succ k ih =>
    rw [numB, leNat, ih, sh8, Nat.pow_succ, Nat.mul_comm (256 ^ k) 256, Nat.mod_mul]
    rw [UInt64.toNat_toUInt8]
theorem pow8 (k : Nat) (h : k ≤ 8) : 256 ^ k ≤ 18446744073709551616 := Nat.le_trans (Nat.pow_le_pow_right (by omega) h) (by decide)
theorem leN_toNat (l : List UInt8) (h : l.length ≤ 8) : (leN l).toNat = leNat l := by
  rw [leN, UInt64.toNat_ofNat']
  exact Nat.mod_eq_of_lt (Nat.lt_of_lt_of_le (leNat_lt l) (pow8 _ h))
theorem leN_numB8 (x : UInt64) : leN (numB x 8) = x := by
  rw [← UInt64.toNat_inj, leN_toNat _ (by rw [numB_length]; exact Nat.le_refl _), leNat_numB]
  exact Nat.mod_eq_of_lt x.toNat_lt
theorem leN_numB (x : UInt64) (k : Nat) (h : k ≤ 8) : (leN (numB x k)).toNat = x.toNat % 256 ^ k := by
  rw [leN_toNat _ (by rw [numB_length]; exact h), leNat_numB]
theorem leN_cons (x : UInt8) (l : List UInt8) (h : l.length ≤ 7) : 256 * leN l + x.toUInt64 = leN (x :: l) := by
  rw [← UInt64.toNat_inj, leN_toNat _ (by rw [List.length_cons]; omega), leNat, UInt64.toNat_add, UInt64.toNat_mul, leN_toNat _ (by omega), UInt8.toNat_toUInt64]
  have h1 := leNat_lt (x :: l)
  have h2 := pow8 (x :: l).length (by rw [List.length_cons]; omega)
  rw [leNat] at h1
  rw [show UInt64.toNat 256 = 256 from rfl, Nat.mod_eq_of_lt (show 256 * leNat l < 2 ^ 64 by omega), Nat.mod_eq_of_lt (by omega)]
  omega
theorem leN_or (l : List UInt8) (x : UInt8) (h : l.length ≤ 7) : leN l ||| (x.toUInt64 <<< UInt64.ofNat (8 * l.length)) = leN (l ++ [x]) := by
  have h3 : 256 ^ l.length = 2 ^ (8 * l.length) := by rw [Nat.pow_mul]
  have h1 := leNat_lt (l ++ [x])
  have h2 := pow8 (l ++ [x]).length (by simp; omega)
  rw [leNat_append, leNat, leNat, Nat.mul_zero, Nat.add_zero] at h1
  rw [← UInt64.toNat_inj, leN_toNat (l ++ [x]) (by simp; omega), leNat_append, leNat, leNat, Nat.mul_zero, Nat.add_zero, UInt64.toNat_or, leN_toNat _ (by omega), UInt64.toNat_shiftLeft, UInt8.toNat_toUInt64, UInt64.toNat_ofNat', h3]
  rw [h3] at h1
  have h4 : (8 * l.length) % 2 ^ 64 % 64 = 8 * l.length := by rw [Nat.mod_eq_of_lt (show 8 * l.length < 2 ^ 64 by omega), Nat.mod_eq_of_lt (by omega)]
  rw [h4, Nat.shiftLeft_eq]
  have h5 : x.toNat * 2 ^ (8 * l.length) < 2 ^ 64 := by rw [Nat.mul_comm]; omega
  rw [Nat.mod_eq_of_lt h5, Nat.or_comm, ← Nat.shiftLeft_eq]
  have h6 := leNat_lt l
  rw [h3] at h6
  rw [← Nat.shiftLeft_add_eq_or_of_lt h6, Nat.shiftLeft_eq, Nat.mul_comm, Nat.add_comm]
theorem leN_nil : leN [] = 0 := rfl
theorem div256 (x : UInt64) : x / (256 : UInt64) = x >>> (8 : UInt64) := by rw [← UInt64.toNat_inj, sh8, UInt64.toNat_div]; rfl
theorem mod256 (x : UInt64) : (x % (256 : UInt64)).toUInt8 = x.toUInt8 := by
  rw [← UInt8.toNat_inj]; simp
def sizedN (n : Int) : Nat := (min (max n 1) 8).toNat
theorem sizedN_le (n : Int) : sizedN n ≤ 8 := by unfold sizedN; omega
theorem sizedN_pos (n : Int) : 1 ≤ sizedN n := by unfold sizedN; omega
def zer (l : List UInt8) : Bool := l.all (· == 0)
/-- A reader: what is left, and the first error. -/
structure Rd where
  b : List UInt8
  e : Int
def Rd.bytes (r : Rd) (n : Nat) : List UInt8 := if r.e = 0 ∧ n ≤ r.b.length then r.b.take n else []
def Rd.bytes' (r : Rd) (n : Nat) : Rd := if r.e = 0 then (if n ≤ r.b.length then ⟨r.b.drop n, 0⟩ else ⟨r.b, 4⟩) else r
def Rd.fails (r : Rd) (k : Int) : Rd := if r.e = 0 then ⟨r.b, k⟩ else r
def Rd.num (r : Rd) (k : Nat) (most : UInt64) : UInt64 := if (leN (r.bytes k)).toNat ≤ most.toNat then leN (r.bytes k) else 0
def Rd.num' (r : Rd) (k : Nat) (most : UInt64) : Rd := if (leN (r.bytes k)).toNat ≤ most.toNat then r.bytes' k else (r.bytes' k).fails 3
def textOk (x : List UInt8) : Prop := (x.getD 0 0).toNat < x.length ∧ zer (x.drop (1 + (x.getD 0 0).toNat)) = true
instance (x : List UInt8) : Decidable (textOk x) := inferInstanceAs (Decidable (_ ∧ _))
def textIn (x : List UInt8) : List UInt8 := (x.drop 1).take (x.getD 0 0).toNat
def Rd.text (r : Rd) (p : Nat) : List UInt8 := if textOk (r.bytes (p + 1)) then textIn (r.bytes (p + 1)) else []
def Rd.text' (r : Rd) (p : Nat) : Rd := if r.bytes (p + 1) ≠ [] ∧ ¬ textOk (r.bytes (p + 1)) then (r.bytes' (p + 1)).fails 3 else r.bytes' (p + 1)
def Rd.rest (r : Rd) : Rd := if zer r.b = true then r else r.fails 3
def Rd.left (r : Rd) : Nat := if r.e = 0 then r.b.length else 0
end Go.Proofs.Ytpiaohajbbdpdaa
