/- math/bits.RotateLeft32, walked once. -/
import Derived.Test.YtpiaohajbbdpdaaBd
namespace Go.Proofs.Ytpiaohajbbdpdaa
open Go Go.RowKit
set_option linter.unusedSimpArgs false
set_option linter.unusedVariables false
set_option maxRecDepth 4000
theorem aresults_0 {P : Program} {fn : Func} {t : ATmps} {H : AH} (h : fn.results = #[]) : aresults P fn t H = some (.tuple #[]) := by unfold aresults; rw [h]
theorem aresults_1 {P : Program} {fn : Func} {t : ATmps} {H : AH} {r : ResultVar} (h : fn.results = #[r]) : aresults P fn t H = aresult P H t r := by unfold aresults; rw [h]
theorem aresults_2 {P : Program} {fn : Func} {t : ATmps} {H : AH} {r s : ResultVar} (h : fn.results = #[r, s]) : aresults P fn t H = (match aresult P H t r, aresult P H t s with | some a, some b => some (.tuple #[a, b]) | _, _ => none) := by unfold aresults; rw [h]; rfl
theorem aresults_3 {P : Program} {fn : Func} {t : ATmps} {H : AH} {r s u : ResultVar} (h : fn.results = #[r, s, u]) : aresults P fn t H = (match aresult P H t r, aresult P H t s, aresult P H t u with | some a, some b, some c => some (.tuple #[a, b, c]) | _, _, _ => none) := by unfold aresults; rw [h]; rfl
theorem mixed : Try.prog.follows .mixedOrders = true := by kernel_rfl
/-- a word turned left by s (s below 32). -/
def rotl (x : UInt32) (s : Nat) : UInt32 := ⟨x.toBitVec.rotateLeft s⟩
theorem rotl_toNat (x : UInt32) (s : Nat) (hs : s < 32) : (rotl x s).toNat = (x.toNat * 2 ^ s) % 4294967296 ||| x.toNat / 2 ^ (32 - s) := by
  unfold rotl
  show (BitVec.rotateLeft x.toBitVec s).toNat = _
  rw [BitVec.toNat_rotateLeft]
  rw [Nat.mod_eq_of_lt hs, Nat.shiftLeft_eq, Nat.shiftRight_eq_div_pow]
  rfl
theorem and31 (n : Int) : bits .and .u64 (IntKind.u64.wrap n) 31 = (((n % 32).toNat : Nat) : Int) := by
  rw [IntKind.wrap_u64]
  obtain ⟨m, hm⟩ : ∃ m : Nat, n % 18446744073709551616 = (m : Int) := ⟨(n % 18446744073709551616).toNat, by omega⟩
  rw [hm, show (31 : Int) = ((31 : Nat) : Int) from rfl, u64_and_nat m 31 (by omega) (by omega)]
  have h31 : m &&& 31 = m % 32 := Nat.and_two_pow_sub_one_eq_mod m 5
  rw [h31]; omega
theorem rot_int (x : UInt32) (s : Nat) (hs : s < 32) : bits BinOp.or IntKind.u32 ((x.toNat : Int) * 2 ^ s % 4294967296) ((x.toNat : Int) / 2 ^ (32 - s)) = (((rotl x s).toNat : Nat) : Int) := by
  rw [rotl_toNat x s hs]
  have hx := x.toNat_lt
  have e1 : (x.toNat : Int) * 2 ^ s % 4294967296 = ((x.toNat * 2 ^ s % 4294967296 : Nat) : Int) := by rw [Int.natCast_emod, Int.natCast_mul, Int.natCast_pow]; rfl
  have e2 : (x.toNat : Int) / 2 ^ (32 - s) = ((x.toNat / 2 ^ (32 - s) : Nat) : Int) := by rw [Int.natCast_ediv, Int.natCast_pow]; rfl
  rw [e1, e2, u32_or_nat _ _ (Nat.mod_lt _ (by decide)) (Nat.lt_of_le_of_lt (Nat.div_le_self _ _) hx)]
set_option maxHeartbeats 400000 in
theorem rot_calls (x : UInt32) (n : Int) (H : AH) :
    ACalls Try.prog 65 #[U32 x, .int .i64 n] H fun v H' => v = U32 (rotl x (n % 32).toNat) ∧ H' = H := by
  have hb := and31 n
  have hs : (n % 32).toNat < 32 := by omega
  have hr := rot_int x _ hs
  generalize hm : (n % 32).toNat = s at *
  have e1 : ¬ ((s : Int) < 0) := by omega
  have e2 : IntKind.u64.wrap (32 - (s : Int)) = ((32 - s : Nat) : Int) := by rw [IntKind.wrap_u64]; omega
  have e3 : ¬ (((32 - s : Nat) : Int) < 0) := by omega
  have e4 : min s 32 = s := by omega
  have e5 : min (32 - s) 32 = 32 - s := by omega
  refine acalls_of_body Try.func65 rfl Try.ntmps65 (by simp) ?_
  simp only [argsT, Nat.reduceAdd]
  repeat first | refine Qo ?_ | refine Qn ?_
  refine Qp (by kernel_rfl) ?_
  simp -implicitDefEqProofs (disch := (try simp only [sl]); try omega) only [sm,QJ,Qj,Qi,Qq,QC,bd,look,aput,QB,Qf,ty,↓reduceIte,Nat.reduceEqDiff,Nat.reduceAdd,Nat.reduceSub,Nat.reduceMul,Int.reduceLT,Int.reduceLE,Int.reduceNeg,Int.reduceToNat,reduceCtorEq,Nat.reduceBEq,Nat.reduceBNe,Qk,Qe,Value.cells,am,mm,keep, aint, ashift, hb, e1, e2, e3, e4, e5, IntKind.bits, Int.toNat_natCast, wrap32, hr]
  repeat first | refine Qo ?_ | refine Qn ?_
  refine Qp (by kernel_rfl) ?_
  simp -implicitDefEqProofs (disch := (try simp only [sl]); try omega) only [sm,QJ,Qj,Qi,Qq,QC,Qz,bd,QF,look,aput,QH,QB,Qf,Qg,QI,abin,anil,ty,↓reduceIte,Nat.reduceEqDiff,Nat.reduceAdd,Nat.reduceSub,Nat.reduceMul,Int.reduceLT,Int.reduceLE,Int.reduceNeg,Int.reduceToNat,reduceCtorEq,Nat.reduceBEq,Nat.reduceBNe,Qk,Qe,Value.cells,am,mm,keep, aint, ashift, hb, e1, e2, e3, e4, e5, IntKind.bits, Int.toNat_natCast, wrap32, hr]
  repeat first | refine Qo ?_ | refine Qn ?_
  refine Qp (by kernel_rfl) ?_
  simp -implicitDefEqProofs (disch := (try simp only [sl]); try omega) only [sm,QJ,Qj,Qi,Qq,QC,bd,look,aput,QB,Qf,QI,abin,anil,ty,↓reduceIte,Nat.reduceEqDiff,Nat.reduceAdd,Nat.reduceSub,Nat.reduceMul,Int.reduceLT,Int.reduceLE,Int.reduceNeg,Int.reduceToNat,reduceCtorEq,Nat.reduceBEq,Nat.reduceBNe,Qk,Qe,Value.cells,am,mm,keep, aint, ashift, hb, e1, e2, e3, e4, e5, IntKind.bits, Int.toNat_natCast, wrap32, hr]
  first | refine awp_ret ?_ | skip
  show ∃ v, aresults Try.prog Try.f65 _ _ = some v ∧ _
  rw [aresults_1 (r := .tmp 4) (by kernel_rfl)]
  simp -implicitDefEqProofs (disch := (try simp only [sl]); try omega) only [aresult, Option.some.injEq, exists_eq_left', sm,Qj,Qi,Qq,QC,Qz,bd,QF,look,aput,QB,Qf,QA,ty,↓reduceIte,Nat.reduceEqDiff,Nat.reduceAdd,Nat.reduceSub,Nat.reduceMul,Int.reduceLT,Int.reduceLE,Int.reduceNeg,Int.reduceToNat,reduceCtorEq,Nat.reduceBEq,Nat.reduceBNe,Qk,Qe,Value.cells,am,mm,keep]
theorem rotl_rotl (x : UInt32) (a b : Nat) (ha : a < 32) (hb : b < 32) : rotl (rotl x a) b = rotl x ((a + b) % 32) := by
  unfold rotl
  congr 1
  apply BitVec.eq_of_getLsbD_eq
  intro i hi
  simp only [BitVec.getLsbD_rotateLeft, Nat.mod_eq_of_lt ha, Nat.mod_eq_of_lt hb, Nat.mod_mod, Bool.cond_decide]
  by_cases h : a + b < 32
  · rw [Nat.mod_eq_of_lt h]
    by_cases h1 : i < b
    · simp only [h1, if_true]
      rw [if_neg (by omega), if_pos (by omega)]
      simp only [show 32 - b + i < 32 by omega, decide_true, Bool.true_and]
      congr 1; omega
    · simp only [h1, if_false, hi, decide_true, Bool.true_and]
      by_cases h2 : i - b < a
      · rw [if_pos h2, if_pos (by omega)]; congr 1; omega
      · rw [if_neg h2, if_neg (by omega)]
        simp only [show i - b < 32 by omega, decide_true, Bool.true_and]
        congr 1; omega
  · have e : (a + b) % 32 = a + b - 32 := by omega
    rw [e]
    by_cases h1 : i < b
    · simp only [h1, if_true]
      by_cases h2 : 32 - b + i < a
      · rw [if_pos h2, if_pos (by omega)]
        congr 1; omega
      · rw [if_neg h2, if_neg (by omega)]
        simp only [show 32 - b + i < 32 by omega, hi, decide_true, Bool.true_and]
        congr 1; omega
    · simp only [h1, if_false, hi, decide_true, Bool.true_and]
      rw [if_pos (by omega), if_neg (by omega)]
      congr 1; omega
theorem rotl_zero (x : UInt32) : rotl x 0 = x := by
  rw [← UInt32.toNat_inj, rotl_toNat x 0 (by omega)]
  have := x.toNat_lt
  rw [Nat.pow_zero, Nat.mul_one, Nat.mod_eq_of_lt (by omega), Nat.div_eq_of_lt (by omega), Nat.or_zero]
end Go.Proofs.Ytpiaohajbbdpdaa
