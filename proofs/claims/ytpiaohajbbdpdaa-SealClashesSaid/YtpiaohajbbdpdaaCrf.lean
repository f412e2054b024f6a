/- The document's answer for the cipher: left, Quarter, Back, Nonce. -/
import Derived.Test.YtpiaohajbbdpdaaCtn
namespace Go.Proofs.Ytpiaohajbbdpdaa
open Go Go.RowKit
set_option linter.unusedSimpArgs false
set_option linter.unusedVariables false
set_option maxRecDepth 4000
theorem rotl_one (x : UInt32) : rotl x 1 = x * 2 + x / 2147483648 := by
  rw [← UInt32.toNat_inj, rotl_toNat x 1 (by omega)]
  have := x.toNat_lt
  rw [UInt32.toNat_add, UInt32.toNat_mul, UInt32.toNat_div]
  simp only [UInt32.reduceToNat, Nat.reduceSub, Nat.reducePow]
  have e : x.toNat * 2 % 4294967296 = 2 ^ 1 * (x.toNat % 2147483648) := by omega
  rw [e, ← Nat.two_pow_add_eq_or_of_lt (by omega)]
  omega
theorem rotl_succ (x : UInt32) (n : Nat) (h : n < 31) : rotl x (n + 1) = rotl x n * 2 + rotl x n / 2147483648 := by
  rw [← rotl_one, rotl_rotl x n 1 (by omega) (by omega), Nat.mod_eq_of_lt (by omega)]
theorem rotl_xor_back (x _y : UInt32) (a b : Nat) (ha : a < 32) (hb : b < 32) (h : a + b = 32) : rotl (rotl x a) b = x := by
  rw [rotl_rotl x a b ha hb, h, Nat.mod_self, rotl_zero]
set_option maxHeartbeats 1000000 in
theorem left_calls (x : UInt32) (n : Nat) (H : AH) (hn : n < 32) :
    ACalls Try.prog 73 #[U32 x, I64 n] H fun v H' => v = U32 (rotl x n) ∧ H' = H := by
  refine acalls_of_body Try.func73 rfl Try.ntmps73 (by simp) ?_
  simp only [argsT, Nat.reduceAdd]
  repeat first | refine Qo ?_ | refine Qn ?_
  refine Qp (by kernel_rfl) ?_
  simp -implicitDefEqProofs (disch := (try simp only [sl]); try omega) only [sm,QJ,Qj,Qi,Qq,QC,bd,look,aput,QB,Qf,ty,↓reduceIte,Nat.reduceEqDiff,Nat.reduceAdd,Nat.reduceSub,Nat.reduceMul,Int.reduceLT,Int.reduceLE,Int.reduceNeg,Int.reduceToNat,reduceCtorEq,Nat.reduceBEq,Nat.reduceBNe,Qk,Qe,Value.cells,am,mm,keep]
  repeat first | refine Qo ?_ | refine Qn ?_
  refine Qp (by kernel_rfl) ?_
  simp -implicitDefEqProofs (disch := (try simp only [sl]); try omega) only [sm,QJ,Qj,Qi,Qq,QC,bd,look,aput,QB,Qf,ty,↓reduceIte,Nat.reduceEqDiff,Nat.reduceAdd,Nat.reduceSub,Nat.reduceMul,Int.reduceLT,Int.reduceLE,Int.reduceNeg,Int.reduceToNat,reduceCtorEq,Nat.reduceBEq,Nat.reduceBNe,Qk,Qe,Value.cells,am,mm,keep]
  repeat first | refine Qo ?_ | refine Qn ?_
  refine awp_for (fun i : Nat => [(5, I64 i), (0, U32 (rotl x i)), (1, I64 n)]) (fun i => H) (fun i => i ≤ n) (fun i => n - i) 0 (by omega) (by rw [rotl_zero]; exact (by repeat first | exact Forgets.nil | refine Forgets.cons (by first | (simp only [look, ↓reduceIte, Nat.reduceEqDiff]; done) | (simp only [look, ↓reduceIte, Nat.reduceEqDiff]; rfl) | simp [look]) ?_)) rfl ?_
  intro i hi
  repeat first | refine Qo ?_ | refine Qn ?_
  refine Qp (by kernel_rfl) ?_
  simp -implicitDefEqProofs (disch := (try simp only [sl]); try omega) only [sm,QJ,Qj,Qi,Qq,QC,bd,look,aput,QB,Qf,QI,abin,anil,ty,↓reduceIte,Nat.reduceEqDiff,Nat.reduceAdd,Nat.reduceSub,Nat.reduceMul,Int.reduceLT,Int.reduceLE,Int.reduceNeg,Int.reduceToNat,reduceCtorEq,Nat.reduceBEq,Nat.reduceBNe,Qk,Qe,Value.cells,am,mm,keep]
  repeat first | refine Qo ?_ | refine Qn ?_
  refine awp_if (decide (i < n)) rfl (by first | (simp only [aeval_tmp, look, ↓reduceIte, Nat.reduceEqDiff]; try rfl) | rfl) ?_ ?_
  rotate_left
  · intro h
    have h := of_decide_eq_false h
    obtain rfl : i = n := by omega
    refine awp_exit ?_
    simp -implicitDefEqProofs (disch := (try simp only [sl]); try omega) only [sm,Qj,Qi,Qq,QC,bd,look,aput,QB,Qf,ty,↓reduceIte,Nat.reduceEqDiff,Nat.reduceAdd,Nat.reduceSub,Nat.reduceMul,Int.reduceLT,Int.reduceLE,Int.reduceNeg,Int.reduceToNat,reduceCtorEq,Nat.reduceBEq,Nat.reduceBNe,Qk,Qe,Value.cells,am,mm,keep]
    repeat first | refine Qo ?_ | refine Qn ?_
    refine Qp (by kernel_rfl) ?_
    simp -implicitDefEqProofs (disch := (try simp only [sl]); try omega) only [sm,QJ,Qj,Qi,Qq,QC,bd,look,aput,QB,Qf,ty,↓reduceIte,Nat.reduceEqDiff,Nat.reduceAdd,Nat.reduceSub,Nat.reduceMul,Int.reduceLT,Int.reduceLE,Int.reduceNeg,Int.reduceToNat,reduceCtorEq,Nat.reduceBEq,Nat.reduceBNe,Qk,Qe,Value.cells,am,mm,keep]
    first | refine awp_ret ?_ | skip
    show ∃ v, aresults Try.prog Try.f73 _ _ = some v ∧ _
    rw [aresults_1 (r := .tmp 4) (by kernel_rfl)]
    simp -implicitDefEqProofs (disch := (try simp only [sl]); try omega) only [aresult, Option.some.injEq, exists_eq_left', sm,Qj,Qi,Qq,QC,Qz,bd,QF,look,aput,QB,Qf,QA,ty,↓reduceIte,Nat.reduceEqDiff,Nat.reduceAdd,Nat.reduceSub,Nat.reduceMul,Int.reduceLT,Int.reduceLE,Int.reduceNeg,Int.reduceToNat,reduceCtorEq,Nat.reduceBEq,Nat.reduceBNe,Qk,Qe,Value.cells,am,mm,keep]
  intro h
  have h := of_decide_eq_true h
  refine awp_skip ?_
  simp -implicitDefEqProofs (disch := (try simp only [sl]); try omega) only [sm,Qj,Qi,Qq,QC,bd,look,aput,QB,Qf,ty,↓reduceIte,Nat.reduceEqDiff,Nat.reduceAdd,Nat.reduceSub,Nat.reduceMul,Int.reduceLT,Int.reduceLE,Int.reduceNeg,Int.reduceToNat,reduceCtorEq,Nat.reduceBEq,Nat.reduceBNe,Qk,Qe,Value.cells,am,mm,keep]
  repeat first | refine Qo ?_ | refine Qn ?_
  refine Qp (by kernel_rfl) ?_
  simp -implicitDefEqProofs (disch := (try simp only [sl]); try omega) only [sm,QJ,Qj,Qi,Qq,QC,bd,look,aput,QB,Qf,QI,abin,anil,ty,↓reduceIte,Nat.reduceEqDiff,Nat.reduceAdd,Nat.reduceSub,Nat.reduceMul,Int.reduceLT,Int.reduceLE,Int.reduceNeg,Int.reduceToNat,reduceCtorEq,Nat.reduceBEq,Nat.reduceBNe,Qk,Qe,Value.cells,am,mm,keep]
  repeat first | refine Qo ?_ | refine Qn ?_
  refine Qp (by kernel_rfl) ?_
  simp -implicitDefEqProofs (disch := (try simp only [sl]); try omega) only [sm,QJ,Qj,Qi,Qq,QC,bd,look,aput,QB,Qf,QI,abin,anil,ty,↓reduceIte,Nat.reduceEqDiff,Nat.reduceAdd,Nat.reduceSub,Nat.reduceMul,Int.reduceLT,Int.reduceLE,Int.reduceNeg,Int.reduceToNat,reduceCtorEq,Nat.reduceBEq,Nat.reduceBNe,Qk,Qe,Value.cells,am,mm,keep]
  rw [← rotl_succ x i (by omega)]
  exact ⟨i + 1, by omega, (by repeat first | exact Forgets.nil | refine Forgets.cons (by first | (simp only [look, ↓reduceIte, Nat.reduceEqDiff]; done) | (simp only [look, ↓reduceIte, Nat.reduceEqDiff]; rfl) | simp [look]) ?_), by omega⟩
set_option maxHeartbeats 1000000 in
theorem refquarter_calls (ws : List UInt32) (hl : ws.length = 4) (H : AH) :
    ACalls Try.prog 68 #[.agg (ws.map U32).toArray] H fun v H' => v = .agg ((qr ws).map U32).toArray ∧ Ext H H' := by
  match ws, hl with
  | [a, b, c, d], _ =>
  refine acalls_of_body Try.func68 rfl Try.ntmps68 (by simp) ?_
  simp only [argsT, Nat.reduceAdd]
  repeat first | refine Qo ?_ | refine Qn ?_
  refine Qp (by kernel_rfl) ?_
  simp -implicitDefEqProofs (disch := (try simp only [sl]); try omega) only [sm,QJ,Qj,Qi,Qq,QC,bd,look,aput,QB,Qf,ty,↓reduceIte,Nat.reduceEqDiff,Nat.reduceAdd,Nat.reduceSub,Nat.reduceMul,Int.reduceLT,Int.reduceLE,Int.reduceNeg,Int.reduceToNat,reduceCtorEq,Nat.reduceBEq,Nat.reduceBNe,Qk,Qe,Value.cells,am,mm,keep]
  repeat first | refine Qo ?_ | refine Qn ?_
  refine awp_region_drawC [(0, []), (1, []), (2, []), (3, []), (4, []), (5, []), (6, []), (7, []), (8, []), (9, []), (10, []), (11, [])] mixed (by kernel_rfl) ?_
  simp -implicitDefEqProofs (disch := (try simp only [sl]); try omega) only [sm,aSel,Qu,Qv,Qw,Qx,Qy,Qj,Qi,Qq,QC,Qz,bd,QF,look,aput,QB,Qf,Qb,QA,ty,↓reduceIte,Nat.reduceEqDiff,Nat.reduceAdd,Nat.reduceSub,Nat.reduceMul,Int.reduceLT,Int.reduceLE,Int.reduceNeg,Int.reduceToNat,reduceCtorEq,Nat.reduceBEq,Nat.reduceBNe,Qk,Qe,Value.cells,am,mm,keep]
  repeat first | refine Qo ?_ | refine Qn ?_
  refine Qp (by kernel_rfl) ?_
  simp -implicitDefEqProofs (disch := (try simp only [sl]); try omega) only [sm,QJ,Qj,Qi,Qq,QC,bd,look,aput,QB,Qf,QI,abin,anil,ty,↓reduceIte,Nat.reduceEqDiff,Nat.reduceAdd,Nat.reduceSub,Nat.reduceMul,Int.reduceLT,Int.reduceLE,Int.reduceNeg,Int.reduceToNat,reduceCtorEq,Nat.reduceBEq,Nat.reduceBNe,Qk,Qe,Value.cells,am,mm,keep]
  repeat first | refine Qo ?_ | refine Qn ?_
  refine Qp (by kernel_rfl) ?_
  simp -implicitDefEqProofs (disch := (try simp only [sl]); try omega) only [sm,QJ,Qj,Qi,Qq,QC,bd,look,aput,Qm,QB,Qf,QI,abin,anil,ty,↓reduceIte,Nat.reduceEqDiff,Nat.reduceAdd,Nat.reduceSub,Nat.reduceMul,Int.reduceLT,Int.reduceLE,Int.reduceNeg,Int.reduceToNat,reduceCtorEq,Nat.reduceBEq,Nat.reduceBNe,Qk,Qe,Value.cells,am,mm,keep]
  refine ACalls.mono (left_calls _ 16 _ (by omega)) ?_
  rintro _ _ ⟨rfl, hHH⟩
  rw [hHH]
  clear hHH
  simp -implicitDefEqProofs (disch := (try simp only [sl]); try omega) only [sm,QJ,aSel,Qu,Qv,Qw,Qx,Qy,Qj,Qi,Qq,QC,Qz,bd,QF,look,aput,Qm,QH,QB,Qf,Qg,QI,abin,anil,QG,Qb,Qc,Qt,QA,Qs,Qr,aslice3,asl3,loN,hiN,Qh,Qa,Qd,Ql,QD,QE,acap,ty,↓reduceIte,Nat.reduceEqDiff,Nat.reduceAdd,Nat.reduceSub,Nat.reduceMul,Int.reduceLT,Int.reduceLE,Int.reduceNeg,Int.reduceToNat,reduceCtorEq,Nat.reduceBEq,Nat.reduceBNe,Qk,Qe,Value.cells,am,mm,keep]
  repeat first | refine Qo ?_ | refine Qn ?_
  refine Qp (by kernel_rfl) ?_
  simp -implicitDefEqProofs (disch := (try simp only [sl]); try omega) only [sm,QJ,Qj,Qi,Qq,QC,bd,look,aput,QB,Qf,QI,abin,anil,ty,↓reduceIte,Nat.reduceEqDiff,Nat.reduceAdd,Nat.reduceSub,Nat.reduceMul,Int.reduceLT,Int.reduceLE,Int.reduceNeg,Int.reduceToNat,reduceCtorEq,Nat.reduceBEq,Nat.reduceBNe,Qk,Qe,Value.cells,am,mm,keep]
  repeat first | refine Qo ?_ | refine Qn ?_
  refine Qp (by kernel_rfl) ?_
  simp -implicitDefEqProofs (disch := (try simp only [sl]); try omega) only [sm,QJ,Qj,Qi,Qq,QC,bd,look,aput,Qm,QB,Qf,QI,abin,anil,ty,↓reduceIte,Nat.reduceEqDiff,Nat.reduceAdd,Nat.reduceSub,Nat.reduceMul,Int.reduceLT,Int.reduceLE,Int.reduceNeg,Int.reduceToNat,reduceCtorEq,Nat.reduceBEq,Nat.reduceBNe,Qk,Qe,Value.cells,am,mm,keep]
  refine ACalls.mono (left_calls _ 12 _ (by omega)) ?_
  rintro _ _ ⟨rfl, hHH⟩
  rw [hHH]
  clear hHH
  simp -implicitDefEqProofs (disch := (try simp only [sl]); try omega) only [sm,QJ,aSel,Qu,Qv,Qw,Qx,Qy,Qj,Qi,Qq,QC,Qz,bd,QF,look,aput,Qm,QH,QB,Qf,Qg,QI,abin,anil,QG,Qb,Qc,Qt,QA,Qs,Qr,aslice3,asl3,loN,hiN,Qh,Qa,Qd,Ql,QD,QE,acap,ty,↓reduceIte,Nat.reduceEqDiff,Nat.reduceAdd,Nat.reduceSub,Nat.reduceMul,Int.reduceLT,Int.reduceLE,Int.reduceNeg,Int.reduceToNat,reduceCtorEq,Nat.reduceBEq,Nat.reduceBNe,Qk,Qe,Value.cells,am,mm,keep]
  repeat first | refine Qo ?_ | refine Qn ?_
  refine Qp (by kernel_rfl) ?_
  simp -implicitDefEqProofs (disch := (try simp only [sl]); try omega) only [sm,QJ,Qj,Qi,Qq,QC,bd,look,aput,QB,Qf,QI,abin,anil,ty,↓reduceIte,Nat.reduceEqDiff,Nat.reduceAdd,Nat.reduceSub,Nat.reduceMul,Int.reduceLT,Int.reduceLE,Int.reduceNeg,Int.reduceToNat,reduceCtorEq,Nat.reduceBEq,Nat.reduceBNe,Qk,Qe,Value.cells,am,mm,keep]
  repeat first | refine Qo ?_ | refine Qn ?_
  refine Qp (by kernel_rfl) ?_
  simp -implicitDefEqProofs (disch := (try simp only [sl]); try omega) only [sm,QJ,Qj,Qi,Qq,QC,bd,look,aput,Qm,QB,Qf,QI,abin,anil,ty,↓reduceIte,Nat.reduceEqDiff,Nat.reduceAdd,Nat.reduceSub,Nat.reduceMul,Int.reduceLT,Int.reduceLE,Int.reduceNeg,Int.reduceToNat,reduceCtorEq,Nat.reduceBEq,Nat.reduceBNe,Qk,Qe,Value.cells,am,mm,keep]
  refine ACalls.mono (left_calls _ 8 _ (by omega)) ?_
  rintro _ _ ⟨rfl, hHH⟩
  rw [hHH]
  clear hHH
  simp -implicitDefEqProofs (disch := (try simp only [sl]); try omega) only [sm,QJ,aSel,Qu,Qv,Qw,Qx,Qy,Qj,Qi,Qq,QC,Qz,bd,QF,look,aput,Qm,QH,QB,Qf,Qg,QI,abin,anil,QG,Qb,Qc,Qt,QA,Qs,Qr,aslice3,asl3,loN,hiN,Qh,Qa,Qd,Ql,QD,QE,acap,ty,↓reduceIte,Nat.reduceEqDiff,Nat.reduceAdd,Nat.reduceSub,Nat.reduceMul,Int.reduceLT,Int.reduceLE,Int.reduceNeg,Int.reduceToNat,reduceCtorEq,Nat.reduceBEq,Nat.reduceBNe,Qk,Qe,Value.cells,am,mm,keep]
  repeat first | refine Qo ?_ | refine Qn ?_
  refine Qp (by kernel_rfl) ?_
  simp -implicitDefEqProofs (disch := (try simp only [sl]); try omega) only [sm,QJ,Qj,Qi,Qq,QC,bd,look,aput,QB,Qf,QI,abin,anil,ty,↓reduceIte,Nat.reduceEqDiff,Nat.reduceAdd,Nat.reduceSub,Nat.reduceMul,Int.reduceLT,Int.reduceLE,Int.reduceNeg,Int.reduceToNat,reduceCtorEq,Nat.reduceBEq,Nat.reduceBNe,Qk,Qe,Value.cells,am,mm,keep]
  repeat first | refine Qo ?_ | refine Qn ?_
  refine Qp (by kernel_rfl) ?_
  simp -implicitDefEqProofs (disch := (try simp only [sl]); try omega) only [sm,QJ,Qj,Qi,Qq,QC,bd,look,aput,Qm,QB,Qf,QI,abin,anil,ty,↓reduceIte,Nat.reduceEqDiff,Nat.reduceAdd,Nat.reduceSub,Nat.reduceMul,Int.reduceLT,Int.reduceLE,Int.reduceNeg,Int.reduceToNat,reduceCtorEq,Nat.reduceBEq,Nat.reduceBNe,Qk,Qe,Value.cells,am,mm,keep]
  refine ACalls.mono (left_calls _ 7 _ (by omega)) ?_
  rintro _ _ ⟨rfl, hHH⟩
  rw [hHH]
  clear hHH
  simp -implicitDefEqProofs (disch := (try simp only [sl]); try omega) only [sm,QJ,aSel,Qu,Qv,Qw,Qx,Qy,Qj,Qi,Qq,QC,Qz,bd,QF,look,aput,Qm,QH,QB,Qf,Qg,QI,abin,anil,QG,Qb,Qc,Qt,QA,Qs,Qr,aslice3,asl3,loN,hiN,Qh,Qa,Qd,Ql,QD,QE,acap,ty,↓reduceIte,Nat.reduceEqDiff,Nat.reduceAdd,Nat.reduceSub,Nat.reduceMul,Int.reduceLT,Int.reduceLE,Int.reduceNeg,Int.reduceToNat,reduceCtorEq,Nat.reduceBEq,Nat.reduceBNe,Qk,Qe,Value.cells,am,mm,keep]
  repeat first | refine Qo ?_ | refine Qn ?_
  refine Qp (by kernel_rfl) ?_
  simp -implicitDefEqProofs (disch := (try simp only [sl]); try omega) only [sm,QJ,Qj,Qi,Qq,QC,bd,look,aput,Qm,QB,Qf,ty,↓reduceIte,Nat.reduceEqDiff,Nat.reduceAdd,Nat.reduceSub,Nat.reduceMul,Int.reduceLT,Int.reduceLE,Int.reduceNeg,Int.reduceToNat,reduceCtorEq,Nat.reduceBEq,Nat.reduceBNe,Qk,Qe,Value.cells,am,mm,keep]
  first | refine awp_ret ?_ | skip
  show ∃ v, aresults Try.prog Try.f68 _ _ = some v ∧ _
  rw [aresults_1 (r := .cell 2 104) (by kernel_rfl)]
  simp -implicitDefEqProofs (disch := (try simp only [sl]); try omega) only [aresult, Option.some.injEq, exists_eq_left', sm,Qj,Qi,Qq,QC,Qz,bd,QF,look,aput,QB,Qf,QA,ty,↓reduceIte,Nat.reduceEqDiff,Nat.reduceAdd,Nat.reduceSub,Nat.reduceMul,Int.reduceLT,Int.reduceLE,Int.reduceNeg,Int.reduceToNat,reduceCtorEq,Nat.reduceBEq,Nat.reduceBNe,Qk,Qe,Value.cells,am,mm,keep]
  exact ⟨rfl, (by repeat first | assumption | exact Ext.refl _ | exact Ext.pre (by assumption) | exact Ext.pre (Ext.pre (by assumption)) | exact Ext.pre (Ext.pre (Ext.pre (by assumption))) | exact Ext.pre (Ext.pre (Ext.pre (Ext.pre (by assumption)))) | apply Ext.pushed | refine Ext.both ?_ _ _ | refine Ext.set ?_ _ (by omega))⟩
def backR (a b c d : UInt32) : List UInt32 :=
  let b1 := rotl b 25 ^^^ c
  let c1 := c - d
  let d1 := rotl d 24 ^^^ a
  let a1 := a - b1
  let b2 := rotl b1 20 ^^^ c1
  let c2 := c1 - d1
  let d2 := rotl d1 16 ^^^ a1
  let a2 := a1 - b2
  [a2, b2, c2, d2]
theorem xor_xor' (x y : UInt32) : x ^^^ y ^^^ y = x := by rw [UInt32.xor_assoc, UInt32.xor_self, UInt32.xor_zero]
theorem back_of (a b c d a1 b1 c1 d1 a2 b2 c2 d2 : UInt32) (h1 : a1 = a + b) (h2 : d1 = rotl (d ^^^ a1) 16) (h3 : c1 = c + d1) (h4 : b1 = rotl (b ^^^ c1) 12) (h5 : a2 = a1 + b1) (h6 : d2 = rotl (d1 ^^^ a2) 8) (h7 : c2 = c1 + d2) (h8 : b2 = rotl (b1 ^^^ c2) 7) :
    backR a2 b2 c2 d2 = [a, b, c, d] := by
  have e1 : rotl b2 25 ^^^ c2 = b1 := by rw [h8, rotl_xor_back _ 0 7 25 (by omega) (by omega) (by omega), xor_xor']
  have e2 : c2 - d2 = c1 := by rw [h7, UInt32.add_sub_cancel]
  have e3 : rotl d2 24 ^^^ a2 = d1 := by rw [h6, rotl_xor_back _ 0 8 24 (by omega) (by omega) (by omega), xor_xor']
  have e4 : a2 - b1 = a1 := by rw [h5, UInt32.add_sub_cancel]
  have e5 : rotl b1 20 ^^^ c1 = b := by rw [h4, rotl_xor_back _ 0 12 20 (by omega) (by omega) (by omega), xor_xor']
  have e6 : c1 - d1 = c := by rw [h3, UInt32.add_sub_cancel]
  have e7 : rotl d1 16 ^^^ a1 = d := by rw [h2, rotl_xor_back _ 0 16 16 (by omega) (by omega) (by omega), xor_xor']
  have e8 : a1 - b = a := by rw [h1, UInt32.add_sub_cancel]
  simp only [backR, e1, e2, e3, e4, e5, e6, e7, e8]
theorem qr_list (a b c d : UInt32) : ∃ a2 b2 c2 d2, qr [a, b, c, d] = [a2, b2, c2, d2] ∧ backR a2 b2 c2 d2 = [a, b, c, d] :=
  ⟨_, _, _, _, rfl, back_of a b c d _ _ _ _ _ _ _ _ rfl rfl rfl rfl rfl rfl rfl rfl⟩
set_option maxHeartbeats 4000000 in
theorem refnonce_calls (e : UInt32) (b : UInt64) (H : AH) :
    ACalls Try.prog 31 #[U32 e, U64 b] H fun v H' => v = .agg ((nonceB e b).map U8).toArray ∧ Ext H H' := by
  refine acalls_of_body Try.func31 rfl Try.ntmps31 (by simp) ?_
  simp only [argsT, Nat.reduceAdd]
  repeat first | refine Qo ?_ | refine Qn ?_
  refine Qp (by kernel_rfl) ?_
  simp -implicitDefEqProofs (disch := (try simp only [sl]); try omega) only [sm,QJ,Qj,Qi,Qq,QC,bd,look,aput,QB,Qf,ty,↓reduceIte,Nat.reduceEqDiff,Nat.reduceAdd,Nat.reduceSub,Nat.reduceMul,Int.reduceLT,Int.reduceLE,Int.reduceNeg,Int.reduceToNat,reduceCtorEq,Nat.reduceBEq,Nat.reduceBNe,Qk,Qe,Value.cells,am,mm,keep, QO]
  repeat first | refine Qo ?_ | refine Qn ?_
  refine Qp (by kernel_rfl) ?_
  simp -implicitDefEqProofs (disch := (try simp only [sl]); try omega) only [sm,QJ,Qj,Qi,Qq,QC,bd,look,aput,QB,Qf,ty,↓reduceIte,Nat.reduceEqDiff,Nat.reduceAdd,Nat.reduceSub,Nat.reduceMul,Int.reduceLT,Int.reduceLE,Int.reduceNeg,Int.reduceToNat,reduceCtorEq,Nat.reduceBEq,Nat.reduceBNe,Qk,Qe,Value.cells,am,mm,keep, QO]
  repeat first | refine Qo ?_ | refine Qn ?_
  refine Qp (by kernel_rfl) ?_
  simp -implicitDefEqProofs (disch := (try simp only [sl]); try omega) only [sm,QJ,Qj,Qi,Qq,QC,bd,look,aput,QB,Qf,ty,↓reduceIte,Nat.reduceEqDiff,Nat.reduceAdd,Nat.reduceSub,Nat.reduceMul,Int.reduceLT,Int.reduceLE,Int.reduceNeg,Int.reduceToNat,reduceCtorEq,Nat.reduceBEq,Nat.reduceBNe,Qk,Qe,Value.cells,am,mm,keep, QO]
  generalize hz : zb 12 = z
  have hzl : z.length = 12 := by rw [← hz, zb, List.length_replicate]
  generalize hF : (fun i : Nat => if i < 4 then (e >>> UInt32.ofNat (8 * i)).toUInt8 else (b >>> UInt64.ofNat (8 * (i - 4))).toUInt8) = F
  repeat first | refine Qo ?_ | refine Qn ?_
  refine awp_for (fun i : Nat => [(6, I64 i), (5, .pointer (some ⟨H.length + 1, 0, none⟩)), (4, .pointer (some ⟨H.length, 0, none⟩)), (0, U32 e), (1, U64 b)])
    (fun i => H ++ [.own (z.map U8)] ++ [.own ((fillL F z i).map U8)]) (fun i => i ≤ 4) (fun i => 4 - i) 0 (by omega) (by repeat first | exact Forgets.nil | refine Forgets.cons (by first | (simp only [look, ↓reduceIte, Nat.reduceEqDiff]; done) | (simp only [look, ↓reduceIte, Nat.reduceEqDiff]; rfl) | simp [look]) ?_) rfl ?_
  intro i hi
  have hfl := fillL_length F z i
  repeat first | refine Qo ?_ | refine Qn ?_
  refine Qp (by kernel_rfl) ?_
  simp -implicitDefEqProofs (disch := (try simp only [sl]); try omega) only [sm,QJ,Qj,Qi,Qq,QC,bd,look,aput,QB,Qf,QI,abin,anil,ty,↓reduceIte,Nat.reduceEqDiff,Nat.reduceAdd,Nat.reduceSub,Nat.reduceMul,Int.reduceLT,Int.reduceLE,Int.reduceNeg,Int.reduceToNat,reduceCtorEq,Nat.reduceBEq,Nat.reduceBNe,Qk,Qe,Value.cells,am,mm,keep]
  repeat first | refine Qo ?_ | refine Qn ?_
  refine awp_if (decide (i < 4)) rfl (by first | (simp only [aeval_tmp, look, ↓reduceIte, Nat.reduceEqDiff]; try rfl) | rfl) ?_ ?_
  rotate_left
  · intro h
    have h := of_decide_eq_false h
    obtain rfl : i = 4 := by omega
    refine awp_exit ?_
    simp -implicitDefEqProofs (disch := (try simp only [sl]); try omega) only [sm,Qj,Qi,Qq,QC,bd,look,aput,QB,Qf,ty,↓reduceIte,Nat.reduceEqDiff,Nat.reduceAdd,Nat.reduceSub,Nat.reduceMul,Int.reduceLT,Int.reduceLE,Int.reduceNeg,Int.reduceToNat,reduceCtorEq,Nat.reduceBEq,Nat.reduceBNe,Qk,Qe,Value.cells,am,mm,keep]
    repeat first | refine Qo ?_ | refine Qn ?_
    refine Qp (by kernel_rfl) ?_
    simp -implicitDefEqProofs (disch := (try simp only [sl]); try omega) only [sm,QJ,Qj,Qi,Qq,QC,bd,look,aput,QB,Qf,ty,↓reduceIte,Nat.reduceEqDiff,Nat.reduceAdd,Nat.reduceSub,Nat.reduceMul,Int.reduceLT,Int.reduceLE,Int.reduceNeg,Int.reduceToNat,reduceCtorEq,Nat.reduceBEq,Nat.reduceBNe,Qk,Qe,Value.cells,am,mm,keep]
    repeat first | refine Qo ?_ | refine Qn ?_
    refine awp_for (fun i : Nat => [(7, I64 i), (5, .pointer (some ⟨H.length + 1, 0, none⟩)), (4, .pointer (some ⟨H.length, 0, none⟩)), (1, U64 b)])
      (fun i => H ++ [.own (z.map U8)] ++ [.own ((fillL F z (4 + i)).map U8)]) (fun i => i ≤ 8) (fun i => 8 - i) 0 (by omega) (by repeat first | exact Forgets.nil | refine Forgets.cons (by first | (simp only [look, ↓reduceIte, Nat.reduceEqDiff]; done) | (simp only [look, ↓reduceIte, Nat.reduceEqDiff]; rfl) | simp [look]) ?_) rfl ?_
    intro i hi
    have hfl := fillL_length F z (4 + i)
    repeat first | refine Qo ?_ | refine Qn ?_
    refine Qp (by kernel_rfl) ?_
    simp -implicitDefEqProofs (disch := (try simp only [sl]); try omega) only [sm,QJ,Qj,Qi,Qq,QC,bd,look,aput,QB,Qf,QI,abin,anil,ty,↓reduceIte,Nat.reduceEqDiff,Nat.reduceAdd,Nat.reduceSub,Nat.reduceMul,Int.reduceLT,Int.reduceLE,Int.reduceNeg,Int.reduceToNat,reduceCtorEq,Nat.reduceBEq,Nat.reduceBNe,Qk,Qe,Value.cells,am,mm,keep]
    repeat first | refine Qo ?_ | refine Qn ?_
    refine awp_if (decide (i < 8)) rfl (by first | (simp only [aeval_tmp, look, ↓reduceIte, Nat.reduceEqDiff]; try rfl) | rfl) ?_ ?_
    rotate_left
    · intro h
      have h := of_decide_eq_false h
      obtain rfl : i = 8 := by omega
      refine awp_exit ?_
      simp -implicitDefEqProofs (disch := (try simp only [sl]); try omega) only [sm,Qj,Qi,Qq,QC,bd,look,aput,QB,Qf,ty,↓reduceIte,Nat.reduceEqDiff,Nat.reduceAdd,Nat.reduceSub,Nat.reduceMul,Int.reduceLT,Int.reduceLE,Int.reduceNeg,Int.reduceToNat,reduceCtorEq,Nat.reduceBEq,Nat.reduceBNe,Qk,Qe,Value.cells,am,mm,keep]
      have hall : fillL F z (4 + 8) = nonceB e b := by rw [fillL_all _ _ (4 + 8) hzl, ← hF]; rfl
      rw [hall] at hfl ⊢
      generalize nonceB e b = bs at *
      repeat first | refine Qo ?_ | refine Qn ?_
      refine Qp (by kernel_rfl) ?_
      simp -implicitDefEqProofs (disch := (try simp only [sl]); try omega) only [sm,QJ,Qj,Qi,Qq,QC,Qz,bd,QF,look,aput,Qm,QB,Qf,QA,ty,↓reduceIte,Nat.reduceEqDiff,Nat.reduceAdd,Nat.reduceSub,Nat.reduceMul,Int.reduceLT,Int.reduceLE,Int.reduceNeg,Int.reduceToNat,reduceCtorEq,Nat.reduceBEq,Nat.reduceBNe,Qk,Qe,Value.cells,am,mm,keep]
      first | refine awp_ret ?_ | skip
      show ∃ v, aresults Try.prog Try.f31 _ _ = some v ∧ _
      rw [aresults_1 (r := .cell 4 69) (by kernel_rfl)]
      simp -implicitDefEqProofs (disch := (try simp only [sl]); try omega) only [aresult, Option.some.injEq, exists_eq_left', sm,Qj,Qi,Qq,QC,Qz,bd,QF,look,aput,QB,Qf,QA,ty,↓reduceIte,Nat.reduceEqDiff,Nat.reduceAdd,Nat.reduceSub,Nat.reduceMul,Int.reduceLT,Int.reduceLE,Int.reduceNeg,Int.reduceToNat,reduceCtorEq,Nat.reduceBEq,Nat.reduceBNe,Qk,Qe,Value.cells,am,mm,keep]
      exact (by repeat first | assumption | exact Ext.refl _ | exact Ext.pre (by assumption) | exact Ext.pre (Ext.pre (by assumption)) | exact Ext.pre (Ext.pre (Ext.pre (by assumption))) | exact Ext.pre (Ext.pre (Ext.pre (Ext.pre (by assumption)))) | apply Ext.pushed | refine Ext.both ?_ _ _ | refine Ext.set ?_ _ (by omega))
    intro h
    have h := of_decide_eq_true h
    refine awp_skip ?_
    simp -implicitDefEqProofs (disch := (try simp only [sl]); try omega) only [sm,Qj,Qi,Qq,QC,bd,look,aput,QB,Qf,ty,↓reduceIte,Nat.reduceEqDiff,Nat.reduceAdd,Nat.reduceSub,Nat.reduceMul,Int.reduceLT,Int.reduceLE,Int.reduceNeg,Int.reduceToNat,reduceCtorEq,Nat.reduceBEq,Nat.reduceBNe,Qk,Qe,Value.cells,am,mm,keep]
    repeat first | refine Qo ?_ | refine Qn ?_
    refine Qp (by kernel_rfl) ?_
    simp -implicitDefEqProofs (disch := (try simp only [sl]); try omega) only [sm,QJ,Qj,Qi,Qq,QC,Qz,bd,QF,look,aput,Qm,QH,QB,Qf,Qg,QI,abin,anil,Qb,ty,↓reduceIte,Nat.reduceEqDiff,Nat.reduceAdd,Nat.reduceSub,Nat.reduceMul,Int.reduceLT,Int.reduceLE,Int.reduceNeg,Int.reduceToNat,reduceCtorEq,Nat.reduceBEq,Nat.reduceBNe,Qk,Qe,Value.cells,am,mm,keep]
    repeat first | refine Qo ?_ | refine Qn ?_
    refine Qp (by kernel_rfl) ?_
    simp -implicitDefEqProofs (disch := (try simp only [sl]); try omega) only [sm,QJ,Qj,Qi,Qq,QC,bd,look,aput,QB,Qf,QI,abin,anil,ty,↓reduceIte,Nat.reduceEqDiff,Nat.reduceAdd,Nat.reduceSub,Nat.reduceMul,Int.reduceLT,Int.reduceLE,Int.reduceNeg,Int.reduceToNat,reduceCtorEq,Nat.reduceBEq,Nat.reduceBNe,Qk,Qe,Value.cells,am,mm,keep]
    have hf : (b >>> UInt64.ofNat (8 * i)).toUInt8 = F (4 + i) := by rw [← hF]; simp only [show ¬ 4 + i < 4 by omega, if_false, Nat.add_sub_cancel_left]
    rw [hf]
    exact ⟨i + 1, by omega, (by repeat first | exact Forgets.nil | refine Forgets.cons (by first | (simp only [look, ↓reduceIte, Nat.reduceEqDiff]; done) | (simp only [look, ↓reduceIte, Nat.reduceEqDiff]; rfl) | simp [look]) ?_), rfl, by omega⟩
  intro h
  have h := of_decide_eq_true h
  refine awp_skip ?_
  simp -implicitDefEqProofs (disch := (try simp only [sl]); try omega) only [sm,Qj,Qi,Qq,QC,bd,look,aput,QB,Qf,ty,↓reduceIte,Nat.reduceEqDiff,Nat.reduceAdd,Nat.reduceSub,Nat.reduceMul,Int.reduceLT,Int.reduceLE,Int.reduceNeg,Int.reduceToNat,reduceCtorEq,Nat.reduceBEq,Nat.reduceBNe,Qk,Qe,Value.cells,am,mm,keep]
  repeat first | refine Qo ?_ | refine Qn ?_
  refine Qp (by kernel_rfl) ?_
  simp -implicitDefEqProofs (disch := (try simp only [sl]); try omega) only [sm,QJ,Qj,Qi,Qq,QC,Qz,bd,QF,look,aput,Qm,QH,QB,Qf,Qg,QI,abin,anil,Qb,ty,↓reduceIte,Nat.reduceEqDiff,Nat.reduceAdd,Nat.reduceSub,Nat.reduceMul,Int.reduceLT,Int.reduceLE,Int.reduceNeg,Int.reduceToNat,reduceCtorEq,Nat.reduceBEq,Nat.reduceBNe,Qk,Qe,Value.cells,am,mm,keep]
  repeat first | refine Qo ?_ | refine Qn ?_
  refine Qp (by kernel_rfl) ?_
  simp -implicitDefEqProofs (disch := (try simp only [sl]); try omega) only [sm,QJ,Qj,Qi,Qq,QC,bd,look,aput,QB,Qf,QI,abin,anil,ty,↓reduceIte,Nat.reduceEqDiff,Nat.reduceAdd,Nat.reduceSub,Nat.reduceMul,Int.reduceLT,Int.reduceLE,Int.reduceNeg,Int.reduceToNat,reduceCtorEq,Nat.reduceBEq,Nat.reduceBNe,Qk,Qe,Value.cells,am,mm,keep]
  have hf : (e >>> UInt32.ofNat (8 * i)).toUInt8 = F i := by rw [← hF]; simp only [h, if_true]
  rw [hf]
  exact ⟨i + 1, by omega, (by repeat first | exact Forgets.nil | refine Forgets.cons (by first | (simp only [look, ↓reduceIte, Nat.reduceEqDiff]; done) | (simp only [look, ↓reduceIte, Nat.reduceEqDiff]; rfl) | simp [look]) ?_), rfl, by omega⟩
end Go.Proofs.Ytpiaohajbbdpdaa
