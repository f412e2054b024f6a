/- sha: words turned, constants, the words of a block; the document's word turned. -/
import Derived.Test.YtpiaohajbbdpdaaRot
import Derived.Test.YtpiaohajbbdpdaaC6
namespace Go.Proofs.Ytpiaohajbbdpdaa
open Go Go.RowKit
set_option linter.unusedSimpArgs false
set_option linter.unusedVariables false
set_option maxRecDepth 4000
theorem rotl_last (x : UInt32) : rotl x 31 = x / 2 + x % 2 * 2147483648 := by
  rw [← UInt32.toNat_inj, rotl_toNat x 31 (by omega)]
  have := x.toNat_lt
  rw [UInt32.toNat_add, UInt32.toNat_mul, UInt32.toNat_div, UInt32.toNat_mod]
  simp only [UInt32.reduceToNat, Nat.reduceSub, Nat.reducePow]
  have e : x.toNat * 2147483648 % 4294967296 = 2 ^ 31 * (x.toNat % 2) := by omega
  rw [e, ← Nat.two_pow_add_eq_or_of_lt (by omega)]
  omega
theorem wj64 {z : Int} (h0 : -9223372036854775808 ≤ z) (h1 : z ≤ 9223372036854775807) : IntKind.i64.wrap z = z := wi64 z h0 (by omega)
/-- A word turned right by any number. -/
def turnW (x : UInt32) (n : Int) : UInt32 := rotl x ((-n) % 32).toNat
set_option maxHeartbeats 1000000 in
theorem sturn_calls (x : UInt32) (n : Int) (H : AH) (h0 : -9223372036854775808 ≤ n) (h1 : n ≤ 9223372036854775807) :
    ACalls Try.prog 72 #[U32 x, .int .i64 n] H fun v H' => v = U32 (turnW x n) ∧ H' = H := by
  have hl1 := Int.tmod_lt_of_pos n (show (0 : Int) < 32 by decide)
  have hl2 := Int.lt_tmod_of_pos n (show (0 : Int) < 32 by decide)
  have e1 : IntKind.i64.wrap (0 - n.tmod 32) = -(n.tmod 32) := by rw [wj64 (by omega) (by omega)]; omega
  have e2 : ((-(n.tmod 32)) % 32).toNat = ((-n) % 32).toNat := by
    have := Int.tmod_add_mul_tdiv n 32
    omega
  refine acalls_of_body Try.func72 rfl Try.ntmps72 (by simp) ?_
  simp only [argsT, Nat.reduceAdd]
  iterate 2 ((repeat first | refine Qo ?_ | refine Qn ?_); (first | refine Qp (by kernel_rfl) ?_); simp -implicitDefEqProofs (disch := (try simp only [sl]); try omega) only [sm,QJ,Qj,Qi,Qq,QC,bd,look,aput,Qm,QB,Qf,QI,abin,anil,QG,ty,↓reduceIte,Nat.reduceEqDiff,Nat.reduceAdd,Nat.reduceSub,Nat.reduceMul,Int.reduceLT,Int.reduceLE,Int.reduceNeg,Int.reduceToNat,reduceCtorEq,Nat.reduceBEq,Nat.reduceBNe,Qk,Qe,Value.cells,am,mm,keep, aint, e1])
  refine ACalls.mono (rot_calls x _ _) ?_
  rintro _ _ ⟨rfl, hHH⟩
  rw [hHH]
  clear hHH
  simp -implicitDefEqProofs (disch := (try simp only [sl]); try omega) only [sm,QJ,Qj,Qi,Qq,QC,bd,look,aput,Qm,QB,Qf,QI,abin,anil,QG,ty,↓reduceIte,Nat.reduceEqDiff,Nat.reduceAdd,Nat.reduceSub,Nat.reduceMul,Int.reduceLT,Int.reduceLE,Int.reduceNeg,Int.reduceToNat,reduceCtorEq,Nat.reduceBEq,Nat.reduceBNe,Qk,Qe,Value.cells,am,mm,keep]
  first | refine awp_ret ?_ | skip
  show ∃ v, aresults Try.prog Try.f72 _ _ = some v ∧ _
  rw [aresults_1 (r := .tmp 4) (by kernel_rfl)]
  simp -implicitDefEqProofs (disch := (try simp only [sl]); try omega) only [aresult, Option.some.injEq, exists_eq_left', sm,Qj,Qi,Qq,QC,Qz,bd,QF,look,aput,QB,Qf,QA,ty,↓reduceIte,Nat.reduceEqDiff,Nat.reduceAdd,Nat.reduceSub,Nat.reduceMul,Int.reduceLT,Int.reduceLE,Int.reduceNeg,Int.reduceToNat,reduceCtorEq,Nat.reduceBEq,Nat.reduceBNe,Qk,Qe,Value.cells,am,mm,keep]
  rw [turnW, e2]
theorem turnW_lit (x : UInt32) (n : Nat) : turnW x (n : Int) = rotl x ((32 - n % 32) % 32) := by
  rw [turnW]; congr 1; omega
set_option maxHeartbeats 1000000 in
theorem srefturn_calls (x : UInt32) (n : Int) (H : AH) (h0 : -9223372036854775808 ≤ n) (h1 : n ≤ 9223372036854775807) :
    ACalls Try.prog 60 #[U32 x, .int .i64 n] H fun v H' => v = U32 (turnW x n) ∧ H' = H := by
  obtain ⟨m, hm, hlt⟩ : ∃ m : Nat, (n.tmod 32 + 32).tmod 32 = (m : Int) ∧ m < 32 := by
    have := Int.tmod_lt_of_pos n (show (0 : Int) < 32 by decide)
    have := Int.lt_tmod_of_pos n (show (0 : Int) < 32 by decide)
    refine ⟨((n.tmod 32 + 32).tmod 32).toNat, ?_, ?_⟩ <;> (rw [Int.tmod_eq_emod_of_nonneg (by omega)]; omega)
  have e1 : IntKind.i64.wrap (n.tmod 32 + 32) = n.tmod 32 + 32 := by
    have := Int.tmod_lt_of_pos n (show (0 : Int) < 32 by decide)
    have := Int.lt_tmod_of_pos n (show (0 : Int) < 32 by decide)
    exact wj64 (by omega) (by omega)
  have e2 : ((-n) % 32).toNat = 31 * m % 32 := by
    have := Int.tmod_add_mul_tdiv n 32
    have := Int.tmod_lt_of_pos n (show (0 : Int) < 32 by decide)
    have := Int.lt_tmod_of_pos n (show (0 : Int) < 32 by decide)
    rw [Int.tmod_eq_emod_of_nonneg (by omega)] at hm
    omega
  refine acalls_of_body Try.func60 rfl Try.ntmps60 (by simp) ?_
  simp only [argsT, Nat.reduceAdd]
  iterate 3 ((repeat first | refine Qo ?_ | refine Qn ?_); (first | refine Qp (by kernel_rfl) ?_); simp -implicitDefEqProofs (disch := (try simp only [sl]); try omega) only [sm,QJ,Qj,Qi,Qq,QC,bd,look,aput,QB,Qf,QI,abin,anil,ty,↓reduceIte,Nat.reduceEqDiff,Nat.reduceAdd,Nat.reduceSub,Nat.reduceMul,Int.reduceLT,Int.reduceLE,Int.reduceNeg,Int.reduceToNat,reduceCtorEq,Nat.reduceBEq,Nat.reduceBNe,Qk,Qe,Value.cells,am,mm,keep, aint, e1, hm])
  repeat first | refine Qo ?_ | refine Qn ?_
  refine awp_forK [1] (fun i : Nat => [(5, I64 i), (0, U32 (rotl x (31 * i % 32)))]) (fun i : Nat => H) (fun i : Nat => i ≤ m) (fun i : Nat => m - i) (0) (by omega) (by repeat first | exact Forgets.nil | refine Forgets.cons (by first | (simp only [look, ↓reduceIte, Nat.reduceEqDiff]; done) | (simp only [look, ↓reduceIte, Nat.reduceEqDiff]; rfl) | simp [look, rotl_zero]) ?_) rfl ?_
  intro i hi
  try simp -implicitDefEqProofs (disch := (try simp only [sl]); try omega) only [sm,QJ,Qj,Qi,Qq,QC,bd,look,aput,QB,Qf,ty,↓reduceIte,Nat.reduceEqDiff,Nat.reduceAdd,Nat.reduceSub,Nat.reduceMul,Int.reduceLT,Int.reduceLE,Int.reduceNeg,Int.reduceToNat,reduceCtorEq,Nat.reduceBEq,Nat.reduceBNe,Qk,Qe,Value.cells,am,mm,keep]
  iterate 1 ((repeat first | refine Qo ?_ | refine Qn ?_); (first | refine Qp (by kernel_rfl) ?_); simp -implicitDefEqProofs (disch := (try simp only [sl]); try omega) only [sm,QJ,Qj,Qi,Qq,QC,bd,look,aput,QB,Qf,QI,abin,anil,ty,↓reduceIte,Nat.reduceEqDiff,Nat.reduceAdd,Nat.reduceSub,Nat.reduceMul,Int.reduceLT,Int.reduceLE,Int.reduceNeg,Int.reduceToNat,reduceCtorEq,Nat.reduceBEq,Nat.reduceBNe,Qk,Qe,Value.cells,am,mm,keep, aint])
  repeat first | refine Qo ?_ | refine Qn ?_
  refine awp_if _ rfl (by simp only [aeval_tmp, look, ↓reduceIte, Nat.reduceEqDiff]; exact rfl) ?_ ?_
  · intro h
    try simp only [ge_iff_le, gt_iff_lt, decide_eq_true_eq, decide_eq_false_iff_not, Nat.not_lt, Int.not_lt, Nat.not_le, Int.not_le, Bool.and_eq_true, Bool.or_eq_true, Bool.or_eq_false_iff, bne_iff_ne, ne_eq, beq_iff_eq, bne_eq_false_iff_eq, beq_eq_false_iff_ne, Bool.not_eq_true, Bool.not_eq_false, Bool.not_eq_eq_eq_not, Bool.not_true, Bool.not_false, Nat.not_le, Int.ofNat_lt, Int.ofNat_le, Int.natCast_inj] at h
    iterate 3 ((repeat first | refine Qo ?_ | refine Qn ?_); (first | refine awp_skip ?_ | refine Qp (by kernel_rfl) ?_); simp -implicitDefEqProofs (disch := (try simp only [sl]); try omega) only [sm,QJ,Qj,Qi,Qq,QC,bd,look,aput,QB,Qf,QI,abin,anil,ty,↓reduceIte,Nat.reduceEqDiff,Nat.reduceAdd,Nat.reduceSub,Nat.reduceMul,Int.reduceLT,Int.reduceLE,Int.reduceNeg,Int.reduceToNat,reduceCtorEq,Nat.reduceBEq,Nat.reduceBNe,Qk,Qe,Value.cells,am,mm,keep])
    have hs : rotl x (31 * i % 32) / 2 + rotl x (31 * i % 32) % 2 * 2147483648 = rotl x (31 * (i + 1) % 32) := by
      rw [← rotl_last, rotl_rotl _ _ _ (by omega) (by omega)]; congr 1; omega
    rw [hs]
    refine ⟨i + 1, by omega, (by repeat first | exact Forgets.nil | refine Forgets.cons (by first | (simp only [look, ↓reduceIte, Nat.reduceEqDiff]; done) | (simp only [look, ↓reduceIte, Nat.reduceEqDiff]; rfl) | simp [look, rotl_zero]) ?_), ?_⟩
    first | omega | exact ⟨rfl, by omega⟩ | exact ⟨rfl, by simp only []; omega⟩ | (simp only []; omega)
  intro h
  try simp only [ge_iff_le, gt_iff_lt, decide_eq_true_eq, decide_eq_false_iff_not, Nat.not_lt, Int.not_lt, Nat.not_le, Int.not_le, Bool.and_eq_true, Bool.or_eq_true, Bool.or_eq_false_iff, bne_iff_ne, ne_eq, beq_iff_eq, bne_eq_false_iff_eq, beq_eq_false_iff_ne, Bool.not_eq_true, Bool.not_eq_false, Bool.not_eq_eq_eq_not, Bool.not_true, Bool.not_false, Nat.not_le, Int.ofNat_lt, Int.ofNat_le, Int.natCast_inj] at h
  obtain rfl : i = m := by omega
  iterate 2 ((repeat first | refine Qo ?_ | refine Qn ?_); (first | refine awp_exit ?_ | refine Qp (by kernel_rfl) ?_); simp -implicitDefEqProofs (disch := (try simp only [sl]); try omega) only [sm,QJ,Qj,Qi,Qq,QC,bd,look,aput,QB,Qf,ty,↓reduceIte,Nat.reduceEqDiff,Nat.reduceAdd,Nat.reduceSub,Nat.reduceMul,Int.reduceLT,Int.reduceLE,Int.reduceNeg,Int.reduceToNat,reduceCtorEq,Nat.reduceBEq,Nat.reduceBNe,Qk,Qe,Value.cells,am,mm,keep])
  first | refine awp_ret ?_ | skip
  show ∃ v, aresults Try.prog Try.f60 _ _ = some v ∧ _
  rw [aresults_1 (r := .tmp 4) (by kernel_rfl)]
  simp -implicitDefEqProofs (disch := (try simp only [sl]); try omega) only [aresult, Option.some.injEq, exists_eq_left', sm,Qj,Qi,Qq,QC,Qz,bd,QF,look,aput,QB,Qf,QA,ty,↓reduceIte,Nat.reduceEqDiff,Nat.reduceAdd,Nat.reduceSub,Nat.reduceMul,Int.reduceLT,Int.reduceLE,Int.reduceNeg,Int.reduceToNat,reduceCtorEq,Nat.reduceBEq,Nat.reduceBNe,Qk,Qe,Value.cells,am,mm,keep]
  rw [turnW, e2]
def constL : List UInt32 := [0x428a2f98, 0x71374491, 0xb5c0fbcf, 0xe9b5dba5, 0x3956c25b, 0x59f111f1, 0x923f82a4, 0xab1c5ed5, 0xd807aa98, 0x12835b01, 0x243185be, 0x550c7dc3, 0x72be5d74, 0x80deb1fe, 0x9bdc06a7, 0xc19bf174, 0xe49b69c1, 0xefbe4786, 0xfc19dc6, 0x240ca1cc, 0x2de92c6f, 0x4a7484aa, 0x5cb0a9dc, 0x76f988da, 0x983e5152, 0xa831c66d, 0xb00327c8, 0xbf597fc7, 0xc6e00bf3, 0xd5a79147, 0x6ca6351, 0x14292967, 0x27b70a85, 0x2e1b2138, 0x4d2c6dfc, 0x53380d13, 0x650a7354, 0x766a0abb, 0x81c2c92e, 0x92722c85, 0xa2bfe8a1, 0xa81a664b, 0xc24b8b70, 0xc76c51a3, 0xd192e819, 0xd6990624, 0xf40e3585, 0x106aa070, 0x19a4c116, 0x1e376c08, 0x2748774c, 0x34b0bcb5, 0x391c0cb3, 0x4ed8aa4a, 0x5b9cca4f, 0x682e6ff3, 0x748f82ee, 0x78a5636f, 0x84c87814, 0x8cc70208, 0x90befffa, 0xa4506ceb, 0xbef9a3f7, 0xc67178f2]
def firstL : List UInt32 := [0x6a09e667, 0xbb67ae85, 0x3c6ef372, 0xa54ff53a, 0x510e527f, 0x9b05688c, 0x1f83d9ab, 0x5be0cd19]
set_option maxHeartbeats 1000000 in
theorem constants_calls (H : AH) : ACalls Try.prog 71 #[] H fun v H' => v = .agg (constL.map U32).toArray ∧ Ext H H' := by
  refine acalls_of_body Try.func71 rfl Try.ntmps71 (by simp) ?_
  simp only [argsT, Nat.reduceAdd]
  iterate 2 ((repeat first | refine Qo ?_ | refine Qn ?_); (first | refine Qp (by kernel_rfl) ?_); simp -implicitDefEqProofs (disch := (try simp only [sl]); try omega) only [sm,QJ,Qj,Qi,Qq,QC,bd,look,aput,Qm,QB,Qf,ty,↓reduceIte,Nat.reduceEqDiff,Nat.reduceAdd,Nat.reduceSub,Nat.reduceMul,Int.reduceLT,Int.reduceLE,Int.reduceNeg,Int.reduceToNat,reduceCtorEq,Nat.reduceBEq,Nat.reduceBNe,Qk,Qe,Value.cells,am,mm,keep])
  first | refine awp_ret ?_ | skip
  show ∃ v, aresults Try.prog Try.f71 _ _ = some v ∧ _
  rw [aresults_1 (r := .cell 0 118) (by kernel_rfl)]
  simp -implicitDefEqProofs (disch := (try simp only [sl]); try omega) only [aresult, Option.some.injEq, exists_eq_left', sm,Qj,Qi,Qq,QC,Qz,bd,QF,look,aput,QB,Qf,QA,ty,↓reduceIte,Nat.reduceEqDiff,Nat.reduceAdd,Nat.reduceSub,Nat.reduceMul,Int.reduceLT,Int.reduceLE,Int.reduceNeg,Int.reduceToNat,reduceCtorEq,Nat.reduceBEq,Nat.reduceBNe,Qk,Qe,Value.cells,am,mm,keep]
  exact ⟨rfl, (by repeat first | assumption | exact Ext.refl _ | exact Ext.pre (by assumption) | exact Ext.pre (Ext.pre (by assumption)) | exact Ext.pre (Ext.pre (Ext.pre (by assumption))) | exact Ext.pre (Ext.pre (Ext.pre (Ext.pre (by assumption)))) | apply Ext.pushed | refine Ext.both ?_ _ _ | refine Ext.set ?_ _ (by omega))⟩
set_option maxHeartbeats 1000000 in
theorem first_calls (H : AH) : ACalls Try.prog 61 #[] H fun v H' => v = .agg (firstL.map U32).toArray ∧ Ext H H' := by
  refine acalls_of_body Try.func61 rfl Try.ntmps61 (by simp) ?_
  simp only [argsT, Nat.reduceAdd]
  iterate 2 ((repeat first | refine Qo ?_ | refine Qn ?_); (first | refine Qp (by kernel_rfl) ?_); simp -implicitDefEqProofs (disch := (try simp only [sl]); try omega) only [sm,QJ,Qj,Qi,Qq,QC,bd,look,aput,Qm,QB,Qf,ty,↓reduceIte,Nat.reduceEqDiff,Nat.reduceAdd,Nat.reduceSub,Nat.reduceMul,Int.reduceLT,Int.reduceLE,Int.reduceNeg,Int.reduceToNat,reduceCtorEq,Nat.reduceBEq,Nat.reduceBNe,Qk,Qe,Value.cells,am,mm,keep])
  first | refine awp_ret ?_ | skip
  show ∃ v, aresults Try.prog Try.f61 _ _ = some v ∧ _
  rw [aresults_1 (r := .cell 0 91) (by kernel_rfl)]
  simp -implicitDefEqProofs (disch := (try simp only [sl]); try omega) only [aresult, Option.some.injEq, exists_eq_left', sm,Qj,Qi,Qq,QC,Qz,bd,QF,look,aput,QB,Qf,QA,ty,↓reduceIte,Nat.reduceEqDiff,Nat.reduceAdd,Nat.reduceSub,Nat.reduceMul,Int.reduceLT,Int.reduceLE,Int.reduceNeg,Int.reduceToNat,reduceCtorEq,Nat.reduceBEq,Nat.reduceBNe,Qk,Qe,Value.cells,am,mm,keep]
  exact ⟨rfl, (by repeat first | assumption | exact Ext.refl _ | exact Ext.pre (by assumption) | exact Ext.pre (Ext.pre (by assumption)) | exact Ext.pre (Ext.pre (Ext.pre (by assumption))) | exact Ext.pre (Ext.pre (Ext.pre (Ext.pre (by assumption)))) | apply Ext.pushed | refine Ext.both ?_ _ _ | refine Ext.set ?_ _ (by omega))⟩
/-- The word of four bytes, the highest first. -/
def be32 (a b c d : UInt8) : UInt32 := (((((0 : UInt32) <<< 8 ||| a.toUInt32) <<< 8 ||| b.toUInt32) <<< 8) ||| c.toUInt32) <<< 8 ||| d.toUInt32
def be32L (bs : List UInt8) : UInt32 := be32 (bs.getD 0 0) (bs.getD 1 0) (bs.getD 2 0) (bs.getD 3 0)
theorem word_be (a b c d : UInt8) : a.toUInt32 * 16777216 + b.toUInt32 * 65536 + c.toUInt32 * 256 + d.toUInt32 = be32 a b c d := by
  have ha := a.toNat_lt
  have hb := b.toNat_lt
  have hc := c.toNat_lt
  have hd := d.toNat_lt
  rw [← UInt32.toNat_inj]
  unfold be32
  simp only [UInt32.toNat_add, UInt32.toNat_mul, UInt32.toNat_or, UInt32.toNat_shiftLeft, UInt8.toNat_toUInt32, UInt32.reduceToNat, Nat.reduceMod, Nat.shiftLeft_eq, Nat.reducePow]
  have e0 : 0 * 256 % 4294967296 ||| a.toNat = a.toNat := by simp
  have e1 : a.toNat * 256 % 4294967296 ||| b.toNat = a.toNat * 256 + b.toNat := by
    rw [Nat.mod_eq_of_lt (by omega), show a.toNat * 256 = 2 ^ 8 * a.toNat by omega, ← Nat.two_pow_add_eq_or_of_lt (by omega)]
  have e2 : (a.toNat * 256 + b.toNat) * 256 % 4294967296 ||| c.toNat = (a.toNat * 256 + b.toNat) * 256 + c.toNat := by
    rw [Nat.mod_eq_of_lt (by omega), show (a.toNat * 256 + b.toNat) * 256 = 2 ^ 8 * (a.toNat * 256 + b.toNat) by omega, ← Nat.two_pow_add_eq_or_of_lt (by omega)]
  have e3 : ((a.toNat * 256 + b.toNat) * 256 + c.toNat) * 256 % 4294967296 ||| d.toNat = ((a.toNat * 256 + b.toNat) * 256 + c.toNat) * 256 + d.toNat := by
    rw [Nat.mod_eq_of_lt (by omega), show ((a.toNat * 256 + b.toNat) * 256 + c.toNat) * 256 = 2 ^ 8 * ((a.toNat * 256 + b.toNat) * 256 + c.toNat) by omega, ← Nat.two_pow_add_eq_or_of_lt (by omega)]
  rw [e0, e1, e2, e3]
  omega
def joinF (bs : List UInt8) : Nat → UInt32
  | 0 => 0
  | i + 1 => joinF bs i <<< 8 ||| (bs.getD i 0).toUInt32
set_option maxHeartbeats 1000000 in
theorem sjoin_calls (v : Value) (bs : List UInt8) (H : AH) (h : SL H v (bs.map U8)) (hl : bs.length = 4) :
    ACalls Try.prog 74 #[v] H fun v H' => v = U32 (be32L bs) ∧ H' = H := by
  obtain ⟨g, o, e, cs, rfl, hc, hg, h1, k, k0⟩ := h.bytes (by omega)
  refine acalls_of_body Try.func74 rfl Try.ntmps74 (by simp) ?_
  simp only [argsT, Nat.reduceAdd]
  iterate 3 ((repeat first | refine Qo ?_ | refine Qn ?_); (first | refine Qp (by kernel_rfl) ?_); simp -implicitDefEqProofs (disch := (try simp only [sl]); try omega) only [sm,QJ,Qj,Qi,Qq,QC,bd,look,aput,QB,Qf,ty,↓reduceIte,Nat.reduceEqDiff,Nat.reduceAdd,Nat.reduceSub,Nat.reduceMul,Int.reduceLT,Int.reduceLE,Int.reduceNeg,Int.reduceToNat,reduceCtorEq,Nat.reduceBEq,Nat.reduceBNe,Qk,Qe,Value.cells,am,mm,keep])
  repeat first | refine Qo ?_ | refine Qn ?_
  refine awp_forK [6, 7] (fun i : Nat => [(8, I64 i), (3, U32 (joinF bs i))]) (fun i : Nat => H) (fun i : Nat => i ≤ 4) (fun i : Nat => 4 - i) (0) (by omega) (by repeat first | exact Forgets.nil | refine Forgets.cons (by first | (simp only [look, ↓reduceIte, Nat.reduceEqDiff]; done) | (simp only [look, ↓reduceIte, Nat.reduceEqDiff]; rfl) | simp [look, rotl_zero]) ?_) rfl ?_
  intro i hi
  try simp -implicitDefEqProofs (disch := (try simp only [sl]); try omega) only [sm,QJ,Qj,Qi,Qq,QC,bd,look,aput,QB,Qf,ty,↓reduceIte,Nat.reduceEqDiff,Nat.reduceAdd,Nat.reduceSub,Nat.reduceMul,Int.reduceLT,Int.reduceLE,Int.reduceNeg,Int.reduceToNat,reduceCtorEq,Nat.reduceBEq,Nat.reduceBNe,Qk,Qe,Value.cells,am,mm,keep]
  iterate 1 ((repeat first | refine Qo ?_ | refine Qn ?_); (first | refine Qp (by kernel_rfl) ?_); simp -implicitDefEqProofs (disch := (try simp only [sl]); try omega) only [sm,QJ,Qj,Qi,Qq,QC,bd,look,aput,QB,Qf,QI,abin,anil,ty,↓reduceIte,Nat.reduceEqDiff,Nat.reduceAdd,Nat.reduceSub,Nat.reduceMul,Int.reduceLT,Int.reduceLE,Int.reduceNeg,Int.reduceToNat,reduceCtorEq,Nat.reduceBEq,Nat.reduceBNe,Qk,Qe,Value.cells,am,mm,keep, hl])
  repeat first | refine Qo ?_ | refine Qn ?_
  refine awp_if _ rfl (by simp only [aeval_tmp, look, ↓reduceIte, Nat.reduceEqDiff]; exact rfl) ?_ ?_
  · intro h
    try simp only [ge_iff_le, gt_iff_lt, decide_eq_true_eq, decide_eq_false_iff_not, Nat.not_lt, Int.not_lt, Nat.not_le, Int.not_le, Bool.and_eq_true, Bool.or_eq_true, Bool.or_eq_false_iff, bne_iff_ne, ne_eq, beq_iff_eq, bne_eq_false_iff_eq, beq_eq_false_iff_ne, Bool.not_eq_true, Bool.not_eq_false, Bool.not_eq_eq_eq_not, Bool.not_true, Bool.not_false, Nat.not_le, Int.ofNat_lt, Int.ofNat_le, Int.natCast_inj] at h
    iterate 4 ((repeat first | refine Qo ?_ | refine Qn ?_); (first | refine awp_skip ?_ | refine Qp (by kernel_rfl) ?_); simp -implicitDefEqProofs (disch := (try simp only [sl]); try omega) only [sm,QJ,Qj,Qi,Qq,QC,Qz,bd,QF,look,aput,QH,QB,Qf,Qg,QI,abin,anil,Qb,QA,ty,↓reduceIte,Nat.reduceEqDiff,Nat.reduceAdd,Nat.reduceSub,Nat.reduceMul,Int.reduceLT,Int.reduceLE,Int.reduceNeg,Int.reduceToNat,reduceCtorEq,Nat.reduceBEq,Nat.reduceBNe,Qk,Qe,Value.cells,am,mm,keep, hc, k, k0, hl])
    refine ⟨i + 1, by omega, (by repeat first | exact Forgets.nil | refine Forgets.cons (by first | (simp only [look, ↓reduceIte, Nat.reduceEqDiff]; done) | (simp only [look, ↓reduceIte, Nat.reduceEqDiff]; rfl) | simp [look, rotl_zero]) ?_), ?_⟩
    first | omega | exact ⟨rfl, by omega⟩ | exact ⟨rfl, by simp only []; omega⟩ | (simp only []; omega)
  intro h
  try simp only [ge_iff_le, gt_iff_lt, decide_eq_true_eq, decide_eq_false_iff_not, Nat.not_lt, Int.not_lt, Nat.not_le, Int.not_le, Bool.and_eq_true, Bool.or_eq_true, Bool.or_eq_false_iff, bne_iff_ne, ne_eq, beq_iff_eq, bne_eq_false_iff_eq, beq_eq_false_iff_ne, Bool.not_eq_true, Bool.not_eq_false, Bool.not_eq_eq_eq_not, Bool.not_true, Bool.not_false, Nat.not_le, Int.ofNat_lt, Int.ofNat_le, Int.natCast_inj] at h
  obtain rfl : i = 4 := by omega
  iterate 2 ((repeat first | refine Qo ?_ | refine Qn ?_); (first | refine awp_exit ?_ | refine Qp (by kernel_rfl) ?_); simp -implicitDefEqProofs (disch := (try simp only [sl]); try omega) only [sm,QJ,Qj,Qi,Qq,QC,bd,look,aput,QB,Qf,ty,↓reduceIte,Nat.reduceEqDiff,Nat.reduceAdd,Nat.reduceSub,Nat.reduceMul,Int.reduceLT,Int.reduceLE,Int.reduceNeg,Int.reduceToNat,reduceCtorEq,Nat.reduceBEq,Nat.reduceBNe,Qk,Qe,Value.cells,am,mm,keep])
  first | refine awp_ret ?_ | skip
  show ∃ v, aresults Try.prog Try.f74 _ _ = some v ∧ _
  rw [aresults_1 (r := .tmp 2) (by kernel_rfl)]
  simp -implicitDefEqProofs (disch := (try simp only [sl]); try omega) only [aresult, Option.some.injEq, exists_eq_left', sm,Qj,Qi,Qq,QC,Qz,bd,QF,look,aput,QB,Qf,QA,ty,↓reduceIte,Nat.reduceEqDiff,Nat.reduceAdd,Nat.reduceSub,Nat.reduceMul,Int.reduceLT,Int.reduceLE,Int.reduceNeg,Int.reduceToNat,reduceCtorEq,Nat.reduceBEq,Nat.reduceBNe,Qk,Qe,Value.cells,am,mm,keep]
  rfl
def sg0 (x : UInt32) : UInt32 := turnW x 7 ^^^ turnW x 18 ^^^ x >>> 3
def sg1 (x : UInt32) : UInt32 := turnW x 17 ^^^ turnW x 19 ^^^ x >>> 10
def nextW (bs : List UInt8) (l : List UInt32) (t : Nat) : UInt32 := if t < 16 then be32L ((bs.drop (4 * t)).take 4) else sg1 (l.getD (t - 2) 0) + l.getD (t - 7) 0 + sg0 (l.getD (t - 15) 0) + l.getD (t - 16) 0
def zw (n : Nat) : List UInt32 := List.replicate n 0
theorem zw_cells (n : Nat) : List.replicate n (Value.int .u32 0) = (zw n).map U32 := by rw [zw, List.map_replicate]; rfl
theorem zw_length (n : Nat) : (zw n).length = n := List.length_replicate
def schedA (bs : List UInt8) (z : List UInt32) : Nat → List UInt32
  | 0 => z
  | t + 1 => (schedA bs z t).set t (nextW bs (schedA bs z t) t)
theorem schedA_length (bs : List UInt8) (z : List UInt32) (t : Nat) : (schedA bs z t).length = z.length := by induction t with
  | zero => rfl
  | succ t ih => rw [schedA, List.length_set, ih]
set_option maxHeartbeats 4000000 in
theorem spread_calls (v : Value) (bs : List UInt8) (H : AH) (h : SL H v (bs.map U8)) (hl : bs.length = 64) :
    ACalls Try.prog 70 #[v] H fun v H' => v = .agg ((schedA bs (zw 64) 64).map U32).toArray ∧ Ext H H' := by
  obtain ⟨g, o, e, cs, rfl, hc, hg, h1, k, k0⟩ := h.bytes (by omega)
  refine acalls_of_body Try.func70 rfl Try.ntmps70 (by simp) ?_
  simp only [argsT, Nat.reduceAdd]
  iterate 3 ((repeat first | refine Qo ?_ | refine Qn ?_); (first | refine Qp (by kernel_rfl) ?_); simp -implicitDefEqProofs (disch := (try simp only [sl]); try omega) only [sm,QJ,Qj,Qi,Qq,QC,bd,look,aput,QB,Qf,ty,↓reduceIte,Nat.reduceEqDiff,Nat.reduceAdd,Nat.reduceSub,Nat.reduceMul,Int.reduceLT,Int.reduceLE,Int.reduceNeg,Int.reduceToNat,reduceCtorEq,Nat.reduceBEq,Nat.reduceBNe,Qk,Qe,Value.cells,am,mm,keep, zw_cells])
  have hzl := zw_length 64
  generalize zw 64 = z at *
  repeat first | refine Qo ?_ | refine Qn ?_
  refine awp_forK [0, 2, 3] (fun i : Nat => [(9, I64 i)]) (fun i : Nat => H ++ [.own (z.map U32)] ++ [.own ((schedA bs z i).map U32)]) (fun i : Nat => i ≤ 64) (fun i : Nat => 64 - i) (0) (by omega) (by repeat first | exact Forgets.nil | refine Forgets.cons (by first | (simp only [look, ↓reduceIte, Nat.reduceEqDiff]; done) | (simp only [look, ↓reduceIte, Nat.reduceEqDiff]; rfl) | simp [look, rotl_zero]) ?_) rfl ?_
  intro i hi
  have hsl : (schedA bs z i).length = 64 := by rw [schedA_length, hzl]
  try simp -implicitDefEqProofs (disch := (try simp only [sl]); try omega) only [sm,QJ,Qj,Qi,Qq,QC,bd,look,aput,QB,Qf,ty,↓reduceIte,Nat.reduceEqDiff,Nat.reduceAdd,Nat.reduceSub,Nat.reduceMul,Int.reduceLT,Int.reduceLE,Int.reduceNeg,Int.reduceToNat,reduceCtorEq,Nat.reduceBEq,Nat.reduceBNe,Qk,Qe,Value.cells,am,mm,keep]
  iterate 1 ((repeat first | refine Qo ?_ | refine Qn ?_); (first | refine Qp (by kernel_rfl) ?_); simp -implicitDefEqProofs (disch := (try simp only [sl]); try omega) only [sm,QJ,Qj,Qi,Qq,QC,bd,look,aput,QB,Qf,QI,abin,anil,ty,↓reduceIte,Nat.reduceEqDiff,Nat.reduceAdd,Nat.reduceSub,Nat.reduceMul,Int.reduceLT,Int.reduceLE,Int.reduceNeg,Int.reduceToNat,reduceCtorEq,Nat.reduceBEq,Nat.reduceBNe,Qk,Qe,Value.cells,am,mm,keep])
  repeat first | refine Qo ?_ | refine Qn ?_
  refine awp_if _ rfl (by simp only [aeval_tmp, look, ↓reduceIte, Nat.reduceEqDiff]; exact rfl) ?_ ?_
  · intro hlt
    try simp only [ge_iff_le, gt_iff_lt, decide_eq_true_eq, decide_eq_false_iff_not, Nat.not_lt, Int.not_lt, Nat.not_le, Int.not_le, Bool.and_eq_true, Bool.or_eq_true, Bool.or_eq_false_iff, bne_iff_ne, ne_eq, beq_iff_eq, bne_eq_false_iff_eq, beq_eq_false_iff_ne, Bool.not_eq_true, Bool.not_eq_false, Bool.not_eq_eq_eq_not, Bool.not_true, Bool.not_false, Nat.not_le, Int.ofNat_lt, Int.ofNat_le, Int.natCast_inj] at hlt
    iterate 3 ((repeat first | refine Qo ?_ | refine Qn ?_); (first | refine awp_skip ?_ | refine Qp (by kernel_rfl) ?_); simp -implicitDefEqProofs (disch := (try simp only [sl]); try omega) only [sm,QJ,Qj,Qi,Qq,QC,bd,look,aput,QB,Qf,QI,abin,anil,ty,↓reduceIte,Nat.reduceEqDiff,Nat.reduceAdd,Nat.reduceSub,Nat.reduceMul,Int.reduceLT,Int.reduceLE,Int.reduceNeg,Int.reduceToNat,reduceCtorEq,Nat.reduceBEq,Nat.reduceBNe,Qk,Qe,Value.cells,am,mm,keep])
    repeat first | refine Qo ?_ | refine Qn ?_
    refine awp_if _ rfl (by simp only [aeval_tmp, look, ↓reduceIte, Nat.reduceEqDiff]; exact rfl) ?_ ?_
    · intro h16
      try simp only [ge_iff_le, gt_iff_lt, decide_eq_true_eq, decide_eq_false_iff_not, Nat.not_lt, Int.not_lt, Nat.not_le, Int.not_le, Bool.and_eq_true, Bool.or_eq_true, Bool.or_eq_false_iff, bne_iff_ne, ne_eq, beq_iff_eq, bne_eq_false_iff_eq, beq_eq_false_iff_ne, Bool.not_eq_true, Bool.not_eq_false, Bool.not_eq_eq_eq_not, Bool.not_true, Bool.not_false, Nat.not_le, Int.ofNat_lt, Int.ofNat_le, Int.natCast_inj] at h16
      have hh := (h.mono (Ext.push H [.own (z.map U32)])).mono (Ext.push _ [.own ((schedA bs z i).map U32)])
      iterate 1 ((repeat first | refine Qo ?_ | refine Qn ?_); (first | refine Qp (by kernel_rfl) ?_); simp -implicitDefEqProofs (disch := (try simp only [sl]); try omega) only [sm,QJ,Qj,Qi,Qq,QC,bd,look,aput,Qm,QB,Qf,QI,abin,anil,Qb,Qr,aslice3,asl3,loN,hiN,ty,↓reduceIte,Nat.reduceEqDiff,Nat.reduceAdd,Nat.reduceSub,Nat.reduceMul,Int.reduceLT,Int.reduceLE,Int.reduceNeg,Int.reduceToNat,reduceCtorEq,Nat.reduceBEq,Nat.reduceBNe,Qk,Qe,Value.cells,am,mm,keep, hl])
      refine ACalls.mono (sjoin_calls _ ((bs.drop (4 * i)).take 4) _ (hh.subm (4 * i) 4 _ (by omega)) (by simp; omega)) ?_
      rintro _ _ ⟨rfl, hHH⟩
      rw [hHH]
      clear hHH
      simp -implicitDefEqProofs (disch := (try simp only [sl]); try omega) only [sm,QJ,Qj,Qi,Qq,QC,bd,look,aput,Qm,QB,Qf,QI,abin,anil,Qb,Qr,aslice3,asl3,loN,hiN,ty,↓reduceIte,Nat.reduceEqDiff,Nat.reduceAdd,Nat.reduceSub,Nat.reduceMul,Int.reduceLT,Int.reduceLE,Int.reduceNeg,Int.reduceToNat,reduceCtorEq,Nat.reduceBEq,Nat.reduceBNe,Qk,Qe,Value.cells,am,mm,keep]
      iterate 2 ((repeat first | refine Qo ?_ | refine Qn ?_); (first | refine awp_exit ?_ | refine Qp (by kernel_rfl) ?_); simp -implicitDefEqProofs (disch := (try simp only [sl]); try omega) only [sm,QJ,Qj,Qi,Qq,QC,bd,look,aput,QB,Qf,QI,abin,anil,ty,↓reduceIte,Nat.reduceEqDiff,Nat.reduceAdd,Nat.reduceSub,Nat.reduceMul,Int.reduceLT,Int.reduceLE,Int.reduceNeg,Int.reduceToNat,reduceCtorEq,Nat.reduceBEq,Nat.reduceBNe,Qk,Qe,Value.cells,am,mm,keep])
      rw [show (schedA bs z i).set i (be32L ((bs.drop (4 * i)).take 4)) = schedA bs z (i + 1) by rw [schedA, nextW, if_pos h16]]
      refine ⟨i + 1, by omega, (by repeat first | exact Forgets.nil | refine Forgets.cons (by first | (simp only [look, ↓reduceIte, Nat.reduceEqDiff]; done) | (simp only [look, ↓reduceIte, Nat.reduceEqDiff]; rfl) | simp [look, rotl_zero]) ?_), ?_⟩
      first | omega | exact ⟨rfl, by omega⟩ | exact ⟨rfl, by simp only []; omega⟩ | (simp only []; omega)
    intro h16
    try simp only [ge_iff_le, gt_iff_lt, decide_eq_true_eq, decide_eq_false_iff_not, Nat.not_lt, Int.not_lt, Nat.not_le, Int.not_le, Bool.and_eq_true, Bool.or_eq_true, Bool.or_eq_false_iff, bne_iff_ne, ne_eq, beq_iff_eq, bne_eq_false_iff_eq, beq_eq_false_iff_ne, Bool.not_eq_true, Bool.not_eq_false, Bool.not_eq_eq_eq_not, Bool.not_true, Bool.not_false, Nat.not_le, Int.ofNat_lt, Int.ofNat_le, Int.natCast_inj] at h16
    iterate 3 ((repeat first | refine Qo ?_ | refine Qn ?_); (first | refine awp_skip ?_ | refine awp_region_drawC (id := 7) [(0, []), (1, []), (2, []), (3, []), (4, []), (5, []), (6, []), (7, []), (8, []), (9, [])] mixed (by kernel_rfl) ?_ | refine Qp (by kernel_rfl) ?_); simp -implicitDefEqProofs (disch := (try simp only [sl]); try omega) only [sm,QJ,aSel,Qu,Qv,Qw,Qx,Qy,Qj,Qi,Qq,QC,Qz,bd,QF,look,aput,Qm,QB,Qf,QI,abin,anil,Qb,QA,ty,↓reduceIte,Nat.reduceEqDiff,Nat.reduceAdd,Nat.reduceSub,Nat.reduceMul,Int.reduceLT,Int.reduceLE,Int.reduceNeg,Int.reduceToNat,reduceCtorEq,Nat.reduceBEq,Nat.reduceBNe,Qk,Qe,Value.cells,am,mm,keep, hsl])
    refine ACalls.mono (sturn_calls ((schedA bs z i).getD (i - 15) 0) 7 _ (by omega) (by omega)) ?_
    rintro _ _ ⟨rfl, hHH⟩
    rw [hHH]
    clear hHH
    simp -implicitDefEqProofs (disch := (try simp only [sl]); try omega) only [sm,QJ,Qj,Qi,Qq,QC,bd,look,aput,Qm,QB,Qf,QI,abin,anil,ty,↓reduceIte,Nat.reduceEqDiff,Nat.reduceAdd,Nat.reduceSub,Nat.reduceMul,Int.reduceLT,Int.reduceLE,Int.reduceNeg,Int.reduceToNat,reduceCtorEq,Nat.reduceBEq,Nat.reduceBNe,Qk,Qe,Value.cells,am,mm,keep]
    refine ACalls.mono (sturn_calls ((schedA bs z i).getD (i - 15) 0) 18 _ (by omega) (by omega)) ?_
    rintro _ _ ⟨rfl, hHH⟩
    rw [hHH]
    clear hHH
    simp -implicitDefEqProofs (disch := (try simp only [sl]); try omega) only [sm,QJ,Qj,Qi,Qq,QC,bd,look,aput,Qm,QB,Qf,QI,abin,anil,ty,↓reduceIte,Nat.reduceEqDiff,Nat.reduceAdd,Nat.reduceSub,Nat.reduceMul,Int.reduceLT,Int.reduceLE,Int.reduceNeg,Int.reduceToNat,reduceCtorEq,Nat.reduceBEq,Nat.reduceBNe,Qk,Qe,Value.cells,am,mm,keep]
    iterate 1 ((repeat first | refine Qo ?_ | refine Qn ?_); (first | refine Qp (by kernel_rfl) ?_); simp -implicitDefEqProofs (disch := (try simp only [sl]); try omega) only [sm,QJ,Qj,Qi,Qq,QC,bd,look,aput,Qm,QB,Qf,QI,abin,anil,ty,↓reduceIte,Nat.reduceEqDiff,Nat.reduceAdd,Nat.reduceSub,Nat.reduceMul,Int.reduceLT,Int.reduceLE,Int.reduceNeg,Int.reduceToNat,reduceCtorEq,Nat.reduceBEq,Nat.reduceBNe,Qk,Qe,Value.cells,am,mm,keep])
    refine ACalls.mono (sturn_calls ((schedA bs z i).getD (i - 2) 0) 17 _ (by omega) (by omega)) ?_
    rintro _ _ ⟨rfl, hHH⟩
    rw [hHH]
    clear hHH
    simp -implicitDefEqProofs (disch := (try simp only [sl]); try omega) only [sm,QJ,Qj,Qi,Qq,QC,bd,look,aput,Qm,QB,Qf,QI,abin,anil,ty,↓reduceIte,Nat.reduceEqDiff,Nat.reduceAdd,Nat.reduceSub,Nat.reduceMul,Int.reduceLT,Int.reduceLE,Int.reduceNeg,Int.reduceToNat,reduceCtorEq,Nat.reduceBEq,Nat.reduceBNe,Qk,Qe,Value.cells,am,mm,keep]
    refine ACalls.mono (sturn_calls ((schedA bs z i).getD (i - 2) 0) 19 _ (by omega) (by omega)) ?_
    rintro _ _ ⟨rfl, hHH⟩
    rw [hHH]
    clear hHH
    simp -implicitDefEqProofs (disch := (try simp only [sl]); try omega) only [sm,QJ,Qj,Qi,Qq,QC,bd,look,aput,Qm,QB,Qf,QI,abin,anil,ty,↓reduceIte,Nat.reduceEqDiff,Nat.reduceAdd,Nat.reduceSub,Nat.reduceMul,Int.reduceLT,Int.reduceLE,Int.reduceNeg,Int.reduceToNat,reduceCtorEq,Nat.reduceBEq,Nat.reduceBNe,Qk,Qe,Value.cells,am,mm,keep]
    iterate 2 ((repeat first | refine Qo ?_ | refine Qn ?_); (first | refine awp_region_drawC (id := 10) [(0, []), (1, []), (2, []), (3, []), (4, []), (5, []), (6, []), (7, []), (8, []), (9, []), (10, []), (11, []), (12, []), (13, []), (14, []), (15, [])] mixed (by kernel_rfl) ?_ | refine Qp (by kernel_rfl) ?_); simp -implicitDefEqProofs (disch := (try simp only [sl]); try omega) only [sm,QJ,aSel,Qu,Qv,Qw,Qx,Qy,Qj,Qi,Qq,QC,Qz,bd,QF,look,aput,Qm,QB,Qf,QI,abin,anil,Qb,QA,ty,↓reduceIte,Nat.reduceEqDiff,Nat.reduceAdd,Nat.reduceSub,Nat.reduceMul,Int.reduceLT,Int.reduceLE,Int.reduceNeg,Int.reduceToNat,reduceCtorEq,Nat.reduceBEq,Nat.reduceBNe,Qk,Qe,Value.cells,am,mm,keep, hsl])
    have hnx : (schedA bs z i).set i (sg1 ((schedA bs z i).getD (i - 2) 0) + (schedA bs z i).getD (i - 7) 0 + sg0 ((schedA bs z i).getD (i - 15) 0) + (schedA bs z i).getD (i - 16) 0) = schedA bs z (i + 1) := by rw [schedA, nextW, if_neg (by omega)]
    rw [sg0, sg1] at hnx
    rw [show UInt32.ofNat 3 = 3 from rfl, show UInt32.ofNat 10 = 10 from rfl, hnx]
    refine ⟨i + 1, by omega, (by repeat first | exact Forgets.nil | refine Forgets.cons (by first | (simp only [look, ↓reduceIte, Nat.reduceEqDiff]; done) | (simp only [look, ↓reduceIte, Nat.reduceEqDiff]; rfl) | simp [look, rotl_zero]) ?_), ?_⟩
    first | omega | exact ⟨rfl, by omega⟩ | exact ⟨rfl, by simp only []; omega⟩ | (simp only []; omega)
  intro h
  try simp only [ge_iff_le, gt_iff_lt, decide_eq_true_eq, decide_eq_false_iff_not, Nat.not_lt, Int.not_lt, Nat.not_le, Int.not_le, Bool.and_eq_true, Bool.or_eq_true, Bool.or_eq_false_iff, bne_iff_ne, ne_eq, beq_iff_eq, bne_eq_false_iff_eq, beq_eq_false_iff_ne, Bool.not_eq_true, Bool.not_eq_false, Bool.not_eq_eq_eq_not, Bool.not_true, Bool.not_false, Nat.not_le, Int.ofNat_lt, Int.ofNat_le, Int.natCast_inj] at h
  obtain rfl : i = 64 := by omega
  iterate 2 ((repeat first | refine Qo ?_ | refine Qn ?_); (first | refine awp_exit ?_ | refine Qp (by kernel_rfl) ?_); simp -implicitDefEqProofs (disch := (try simp only [sl]); try omega) only [sm,QJ,Qj,Qi,Qq,QC,Qz,bd,QF,look,aput,Qm,QB,Qf,QA,ty,↓reduceIte,Nat.reduceEqDiff,Nat.reduceAdd,Nat.reduceSub,Nat.reduceMul,Int.reduceLT,Int.reduceLE,Int.reduceNeg,Int.reduceToNat,reduceCtorEq,Nat.reduceBEq,Nat.reduceBNe,Qk,Qe,Value.cells,am,mm,keep, hsl, hzl])
  first | refine awp_ret ?_ | skip
  show ∃ v, aresults Try.prog Try.f70 _ _ = some v ∧ _
  rw [aresults_1 (r := .cell 2 118) (by kernel_rfl)]
  simp -implicitDefEqProofs (disch := (try simp only [sl]); try omega) only [aresult, Option.some.injEq, exists_eq_left', sm,Qj,Qi,Qq,QC,Qz,bd,QF,look,aput,QB,Qf,QA,ty,↓reduceIte,Nat.reduceEqDiff,Nat.reduceAdd,Nat.reduceSub,Nat.reduceMul,Int.reduceLT,Int.reduceLE,Int.reduceNeg,Int.reduceToNat,reduceCtorEq,Nat.reduceBEq,Nat.reduceBNe,Qk,Qe,Value.cells,am,mm,keep]
  exact (by repeat first | assumption | exact Ext.refl _ | exact Ext.pre (by assumption) | exact Ext.pre (Ext.pre (by assumption)) | exact Ext.pre (Ext.pre (Ext.pre (by assumption))) | exact Ext.pre (Ext.pre (Ext.pre (Ext.pre (by assumption)))) | apply Ext.pushed | refine Ext.both ?_ _ _ | refine Ext.set ?_ _ (by omega))
end Go.Proofs.Ytpiaohajbbdpdaa
