/- cipher.Quarter and its closure: one quarter round. cipher.start: the words of a block at first. -/
import Derived.Test.YtpiaohajbbdpdaaRot
import Derived.Test.YtpiaohajbbdpdaaBd

namespace Go.Proofs.Ytpiaohajbbdpdaa
open Go Go.RowKit
set_option linter.unusedSimpArgs false
set_option linter.unusedVariables false
set_option maxRecDepth 4000
/-- one of four steps of a quarter round. -/
def qadd (ws : List UInt32) (x y z n : Nat) : List UInt32 :=
  (ws.set x (ws.getD x 0 + ws.getD y 0)).set z (rotl (ws.getD z 0 ^^^ (ws.set x (ws.getD x 0 + ws.getD y 0)).getD x 0) (((n : Int) % 32).toNat))
set_option maxHeartbeats 1000000 in
theorem qadd_calls (ws : List UInt32) (x y z n g : Nat) (H : AH) (hl : ws.length = 4) (hx : x < 4) (hy : y < 4) (hz : z < 4) (hn : n < 32) (hxz : x ≠ z) (hg : H[g]? = some (.own (ws.map U32))) :
    ACalls Try.prog 64 #[I64 x, I64 y, I64 z, I64 n, .pointer (some ⟨g, 0, none⟩)] H fun v H' => v = .tuple #[] ∧ H' = H.set g (.own ((qadd ws x y z n).map U32)) := by
  have hgl := got_lt hg
  have hc := AH.cells_own hg
  refine acalls_of_body Try.func64 rfl Try.ntmps64 (by simp) ?_
  simp only [argsT, Nat.reduceAdd]
  repeat first | refine Qo ?_ | refine Qn ?_
  refine awp_region_drawC [(0, []), (1, []), (2, []), (3, []), (4, []), (5, []), (6, []), (7, []), (8, [])] mixed (by kernel_rfl) ?_
  simp -implicitDefEqProofs (disch := (try simp only [sl]); try omega) only [sm,aSel,Qu,Qv,Qw,Qx,Qy,Qj,Qi,Qq,QC,Qz,bd,QF,look,aput,Qm,QB,Qf,QI,abin,anil,Qb,QA,ty,↓reduceIte,Nat.reduceEqDiff,Nat.reduceAdd,Nat.reduceSub,Nat.reduceMul,Int.reduceLT,Int.reduceLE,Int.reduceNeg,Int.reduceToNat,reduceCtorEq,Nat.reduceBEq,Nat.reduceBNe,Qk,Qe,Value.cells,am,mm,keep, hc, hg]
  refine awp_region_drawC [(0, []), (1, []), (2, []), (3, []), (4, []), (5, []), (6, []), (7, []), (8, []), (9, []), (10, []), (11, [])] mixed (by kernel_rfl) ?_
  simp -implicitDefEqProofs (disch := (try simp only [sl]); try omega) only [sm,aSel,Qu,Qv,Qw,Qx,Qy,Qj,Qi,Qq,QC,Qz,bd,QF,look,aput,Qm,QB,Qf,QI,abin,anil,Qb,QA,ty,↓reduceIte,Nat.reduceEqDiff,Nat.reduceAdd,Nat.reduceSub,Nat.reduceMul,Int.reduceLT,Int.reduceLE,Int.reduceNeg,Int.reduceToNat,reduceCtorEq,Nat.reduceBEq,Nat.reduceBNe,Qk,Qe,Value.cells,am,mm,keep]
  refine ACalls.mono (rot_calls _ (n : Int) _) ?_
  rintro _ _ ⟨rfl, hHH⟩
  rw [hHH]
  clear hHH
  simp -implicitDefEqProofs (disch := (try simp only [sl]); try omega) only [sm,QJ,aSel,Qu,Qv,Qw,Qx,Qy,Qj,Qi,Qq,QC,Qz,bd,QF,look,aput,Qm,QH,QB,Qf,Qg,QI,abin,anil,QG,Qb,Qc,Qt,QA,Qs,Qr,aslice3,asl3,loN,hiN,Qh,Qa,Qd,Ql,QD,QE,acap,ty,↓reduceIte,Nat.reduceEqDiff,Nat.reduceAdd,Nat.reduceSub,Nat.reduceMul,Int.reduceLT,Int.reduceLE,Int.reduceNeg,Int.reduceToNat,reduceCtorEq,Nat.reduceBEq,Nat.reduceBNe,Qk,Qe,Value.cells,am,mm,keep]
  first | refine awp_ret ?_ | skip
  show ∃ v, aresults Try.prog Try.f64 _ _ = some v ∧ _
  rw [aresults_0  (by kernel_rfl)]
  simp -implicitDefEqProofs (disch := (try simp only [sl]); try omega) only [aresult, Option.some.injEq, exists_eq_left', sm,Qj,Qi,Qq,QC,Qz,bd,QF,look,aput,QB,Qf,QA,ty,↓reduceIte,Nat.reduceEqDiff,Nat.reduceAdd,Nat.reduceSub,Nat.reduceMul,Int.reduceLT,Int.reduceLE,Int.reduceNeg,Int.reduceToNat,reduceCtorEq,Nat.reduceBEq,Nat.reduceBNe,Qk,Qe,Value.cells,am,mm,keep]
  have e : (ws.set x (ws.getD x 0 + ws.getD y 0)).getD z 0 = ws.getD z 0 := by
    simp only [List.getD_eq_getElem?_getD, List.getElem?_set_ne hxz]
  rw [qadd, e]
def qr (ws : List UInt32) : List UInt32 := qadd (qadd (qadd (qadd ws 0 1 3 16) 2 3 1 12) 0 1 3 8) 2 3 1 7
theorem qadd_length (ws : List UInt32) (x y z n : Nat) : (qadd ws x y z n).length = ws.length := by rw [qadd, List.length_set, List.length_set]
set_option maxHeartbeats 1000000 in
theorem quarter_calls (ws : List UInt32) (hl : ws.length = 4) (H : AH) :
    ACalls Try.prog 55 #[.agg (ws.map U32).toArray] H fun v H' => v = .agg ((qr ws).map U32).toArray ∧ Ext H H' := by
  refine acalls_of_body Try.func55 rfl Try.ntmps55 (by simp) ?_
  simp only [argsT, Nat.reduceAdd]
  repeat first | refine Qo ?_ | refine Qn ?_
  refine Qp (by kernel_rfl) ?_
  simp -implicitDefEqProofs (disch := (try simp only [sl]); try omega) only [sm,QJ,Qj,Qi,Qq,QC,bd,look,aput,QB,Qf,ty,↓reduceIte,Nat.reduceEqDiff,Nat.reduceAdd,Nat.reduceSub,Nat.reduceMul,Int.reduceLT,Int.reduceLE,Int.reduceNeg,Int.reduceToNat,reduceCtorEq,Nat.reduceBEq,Nat.reduceBNe,Qk,Qe,Value.cells,am,mm,keep]
  repeat first | refine Qo ?_ | refine Qn ?_
  refine Qp (by kernel_rfl) ?_
  simp -implicitDefEqProofs (disch := (try simp only [sl]); try omega) only [sm,QJ,Qj,Qi,Qq,QC,bd,look,aput,QB,Qf,ty,↓reduceIte,Nat.reduceEqDiff,Nat.reduceAdd,Nat.reduceSub,Nat.reduceMul,Int.reduceLT,Int.reduceLE,Int.reduceNeg,Int.reduceToNat,reduceCtorEq,Nat.reduceBEq,Nat.reduceBNe,Qk,Qe,Value.cells,am,mm,keep]
  repeat first | refine Qo ?_ | refine Qn ?_
  refine Qp (by kernel_rfl) ?_
  simp -implicitDefEqProofs (disch := (try simp only [sl]); try omega) only [sm,QJ,Qj,Qi,Qq,QC,bd,look,aput,Qm,QB,Qf,ty,↓reduceIte,Nat.reduceEqDiff,Nat.reduceAdd,Nat.reduceSub,Nat.reduceMul,Int.reduceLT,Int.reduceLE,Int.reduceNeg,Int.reduceToNat,reduceCtorEq,Nat.reduceBEq,Nat.reduceBNe,Qk,Qe,Value.cells,am,mm,keep]
  refine ACalls.mono (qadd_calls ws 0 1 3 16 H.length _ (by omega) (by omega) (by omega) (by omega) (by omega) (by omega) (by simp -implicitDefEqProofs (disch := (try simp only [sl]); try omega) only [sm,Qj,Qi,Qq,QC,bd,look,aput,ty,↓reduceIte,Nat.reduceEqDiff,Nat.reduceAdd,Nat.reduceSub,Nat.reduceMul,Int.reduceLT,Int.reduceLE,Int.reduceNeg,Int.reduceToNat,reduceCtorEq,Nat.reduceBEq,Nat.reduceBNe,Qk,Qe,Value.cells,am,mm,keep])) ?_
  rintro _ _ ⟨rfl, hHH⟩
  rw [hHH]
  clear hHH
  simp -implicitDefEqProofs (disch := (try simp only [sl]); try omega) only [sm,QJ,aSel,Qu,Qv,Qw,Qx,Qy,Qj,Qi,Qq,QC,Qz,bd,QF,look,aput,Qm,QH,QB,Qf,Qg,QI,abin,anil,QG,Qb,Qc,Qt,QA,Qs,Qr,aslice3,asl3,loN,hiN,Qh,Qa,Qd,Ql,QD,QE,acap,ty,↓reduceIte,Nat.reduceEqDiff,Nat.reduceAdd,Nat.reduceSub,Nat.reduceMul,Int.reduceLT,Int.reduceLE,Int.reduceNeg,Int.reduceToNat,reduceCtorEq,Nat.reduceBEq,Nat.reduceBNe,Qk,Qe,Value.cells,am,mm,keep]
  have l1 := (qadd_length ws 0 1 3 16).trans hl
  repeat first | refine Qo ?_ | refine Qn ?_
  refine Qp (by kernel_rfl) ?_
  simp -implicitDefEqProofs (disch := (try simp only [sl]); try omega) only [sm,QJ,Qj,Qi,Qq,QC,bd,look,aput,Qm,QB,Qf,ty,↓reduceIte,Nat.reduceEqDiff,Nat.reduceAdd,Nat.reduceSub,Nat.reduceMul,Int.reduceLT,Int.reduceLE,Int.reduceNeg,Int.reduceToNat,reduceCtorEq,Nat.reduceBEq,Nat.reduceBNe,Qk,Qe,Value.cells,am,mm,keep]
  refine ACalls.mono (qadd_calls (qadd ws 0 1 3 16) 2 3 1 12 H.length _ (by omega) (by omega) (by omega) (by omega) (by omega) (by omega) (by simp -implicitDefEqProofs (disch := (try simp only [sl]); try omega) only [sm,Qj,Qi,Qq,QC,bd,look,aput,ty,↓reduceIte,Nat.reduceEqDiff,Nat.reduceAdd,Nat.reduceSub,Nat.reduceMul,Int.reduceLT,Int.reduceLE,Int.reduceNeg,Int.reduceToNat,reduceCtorEq,Nat.reduceBEq,Nat.reduceBNe,Qk,Qe,Value.cells,am,mm,keep])) ?_
  rintro _ _ ⟨rfl, hHH⟩
  rw [hHH]
  clear hHH
  simp -implicitDefEqProofs (disch := (try simp only [sl]); try omega) only [sm,QJ,aSel,Qu,Qv,Qw,Qx,Qy,Qj,Qi,Qq,QC,Qz,bd,QF,look,aput,Qm,QH,QB,Qf,Qg,QI,abin,anil,QG,Qb,Qc,Qt,QA,Qs,Qr,aslice3,asl3,loN,hiN,Qh,Qa,Qd,Ql,QD,QE,acap,ty,↓reduceIte,Nat.reduceEqDiff,Nat.reduceAdd,Nat.reduceSub,Nat.reduceMul,Int.reduceLT,Int.reduceLE,Int.reduceNeg,Int.reduceToNat,reduceCtorEq,Nat.reduceBEq,Nat.reduceBNe,Qk,Qe,Value.cells,am,mm,keep]
  have l2 := (qadd_length _ 2 3 1 12).trans l1
  repeat first | refine Qo ?_ | refine Qn ?_
  refine Qp (by kernel_rfl) ?_
  simp -implicitDefEqProofs (disch := (try simp only [sl]); try omega) only [sm,QJ,Qj,Qi,Qq,QC,bd,look,aput,Qm,QB,Qf,ty,↓reduceIte,Nat.reduceEqDiff,Nat.reduceAdd,Nat.reduceSub,Nat.reduceMul,Int.reduceLT,Int.reduceLE,Int.reduceNeg,Int.reduceToNat,reduceCtorEq,Nat.reduceBEq,Nat.reduceBNe,Qk,Qe,Value.cells,am,mm,keep]
  refine ACalls.mono (qadd_calls _ 0 1 3 8 H.length _ l2 (by omega) (by omega) (by omega) (by omega) (by omega) (by simp -implicitDefEqProofs (disch := (try simp only [sl]); try omega) only [sm,Qj,Qi,Qq,QC,bd,look,aput,ty,↓reduceIte,Nat.reduceEqDiff,Nat.reduceAdd,Nat.reduceSub,Nat.reduceMul,Int.reduceLT,Int.reduceLE,Int.reduceNeg,Int.reduceToNat,reduceCtorEq,Nat.reduceBEq,Nat.reduceBNe,Qk,Qe,Value.cells,am,mm,keep])) ?_
  rintro _ _ ⟨rfl, hHH⟩
  rw [hHH]
  clear hHH
  simp -implicitDefEqProofs (disch := (try simp only [sl]); try omega) only [sm,QJ,aSel,Qu,Qv,Qw,Qx,Qy,Qj,Qi,Qq,QC,Qz,bd,QF,look,aput,Qm,QH,QB,Qf,Qg,QI,abin,anil,QG,Qb,Qc,Qt,QA,Qs,Qr,aslice3,asl3,loN,hiN,Qh,Qa,Qd,Ql,QD,QE,acap,ty,↓reduceIte,Nat.reduceEqDiff,Nat.reduceAdd,Nat.reduceSub,Nat.reduceMul,Int.reduceLT,Int.reduceLE,Int.reduceNeg,Int.reduceToNat,reduceCtorEq,Nat.reduceBEq,Nat.reduceBNe,Qk,Qe,Value.cells,am,mm,keep]
  have l3 := (qadd_length _ 0 1 3 8).trans l2
  repeat first | refine Qo ?_ | refine Qn ?_
  refine Qp (by kernel_rfl) ?_
  simp -implicitDefEqProofs (disch := (try simp only [sl]); try omega) only [sm,QJ,Qj,Qi,Qq,QC,bd,look,aput,Qm,QB,Qf,ty,↓reduceIte,Nat.reduceEqDiff,Nat.reduceAdd,Nat.reduceSub,Nat.reduceMul,Int.reduceLT,Int.reduceLE,Int.reduceNeg,Int.reduceToNat,reduceCtorEq,Nat.reduceBEq,Nat.reduceBNe,Qk,Qe,Value.cells,am,mm,keep]
  refine ACalls.mono (qadd_calls _ 2 3 1 7 H.length _ l3 (by omega) (by omega) (by omega) (by omega) (by omega) (by simp -implicitDefEqProofs (disch := (try simp only [sl]); try omega) only [sm,Qj,Qi,Qq,QC,bd,look,aput,ty,↓reduceIte,Nat.reduceEqDiff,Nat.reduceAdd,Nat.reduceSub,Nat.reduceMul,Int.reduceLT,Int.reduceLE,Int.reduceNeg,Int.reduceToNat,reduceCtorEq,Nat.reduceBEq,Nat.reduceBNe,Qk,Qe,Value.cells,am,mm,keep])) ?_
  rintro _ _ ⟨rfl, hHH⟩
  rw [hHH]
  clear hHH
  simp -implicitDefEqProofs (disch := (try simp only [sl]); try omega) only [sm,QJ,aSel,Qu,Qv,Qw,Qx,Qy,Qj,Qi,Qq,QC,Qz,bd,QF,look,aput,Qm,QH,QB,Qf,Qg,QI,abin,anil,QG,Qb,Qc,Qt,QA,Qs,Qr,aslice3,asl3,loN,hiN,Qh,Qa,Qd,Ql,QD,QE,acap,ty,↓reduceIte,Nat.reduceEqDiff,Nat.reduceAdd,Nat.reduceSub,Nat.reduceMul,Int.reduceLT,Int.reduceLE,Int.reduceNeg,Int.reduceToNat,reduceCtorEq,Nat.reduceBEq,Nat.reduceBNe,Qk,Qe,Value.cells,am,mm,keep]
  have l4 := (qadd_length _ 2 3 1 7).trans l3
  repeat first | refine Qo ?_ | refine Qn ?_
  refine Qp (by kernel_rfl) ?_
  simp -implicitDefEqProofs (disch := (try simp only [sl]); try omega) only [sm,QJ,Qj,Qi,Qq,QC,Qz,bd,QF,look,aput,Qm,QB,Qf,QA,ty,↓reduceIte,Nat.reduceEqDiff,Nat.reduceAdd,Nat.reduceSub,Nat.reduceMul,Int.reduceLT,Int.reduceLE,Int.reduceNeg,Int.reduceToNat,reduceCtorEq,Nat.reduceBEq,Nat.reduceBNe,Qk,Qe,Value.cells,am,mm,keep, hl, l1, l2, l3, l4]
  first | refine awp_ret ?_ | skip
  show ∃ v, aresults Try.prog Try.f55 _ _ = some v ∧ _
  rw [aresults_1 (r := .cell 2 104) (by kernel_rfl)]
  simp -implicitDefEqProofs (disch := (try simp only [sl]); try omega) only [aresult, Option.some.injEq, exists_eq_left', sm,Qj,Qi,Qq,QC,Qz,bd,QF,look,aput,QB,Qf,QA,ty,↓reduceIte,Nat.reduceEqDiff,Nat.reduceAdd,Nat.reduceSub,Nat.reduceMul,Int.reduceLT,Int.reduceLE,Int.reduceNeg,Int.reduceToNat,reduceCtorEq,Nat.reduceBEq,Nat.reduceBNe,Qk,Qe,Value.cells,am,mm,keep]
  exact ⟨rfl, (by repeat first | assumption | exact Ext.refl _ | exact Ext.pre (by assumption) | exact Ext.pre (Ext.pre (by assumption)) | exact Ext.pre (Ext.pre (Ext.pre (by assumption))) | exact Ext.pre (Ext.pre (Ext.pre (Ext.pre (by assumption)))) | apply Ext.pushed | refine Ext.both ?_ _ _ | refine Ext.set ?_ _ (by omega))⟩
theorem qr_length (ws : List UInt32) : (qr ws).length = ws.length := by rw [qr, qadd_length, qadd_length, qadd_length, qadd_length]
def turn (ws : List UInt32) (a b c d : Nat) : List UInt32 :=
  let q := qr [ws.getD a 0, ws.getD b 0, ws.getD c 0, ws.getD d 0]
  (((ws.set a (q.getD 0 0)).set b (q.getD 1 0)).set c (q.getD 2 0)).set d (q.getD 3 0)
theorem turn_length (ws : List UInt32) (a b c d : Nat) : (turn ws a b c d).length = ws.length := by simp only [turn, List.length_set]
set_option maxHeartbeats 1000000 in
theorem turn_calls (ws : List UInt32) (a b c d g : Nat) (H : AH) (hl : ws.length = 16) (ha : a < 16) (hb : b < 16) (hc : c < 16) (hd : d < 16) (hg : H[g]? = some (.own (ws.map U32))) :
    ACalls Try.prog 54 #[I64 a, I64 b, I64 c, I64 d, .pointer (some ⟨g, 0, none⟩)] H fun v H' => v = .tuple #[] ∧ Ext (H.set g (.own ((turn ws a b c d).map U32))) H' := by
  have hgl := got_lt hg
  have hcc := AH.cells_own hg
  refine acalls_of_body Try.func54 rfl Try.ntmps54 (by simp) ?_
  simp only [argsT, Nat.reduceAdd]
  repeat first | refine Qo ?_ | refine Qn ?_
  refine awp_region_drawC [(0, []), (1, []), (2, []), (3, []), (4, []), (5, []), (6, []), (7, []), (8, []), (9, []), (10, []), (11, []), (12, []), (14, []), (13, []), (15, [])] mixed (by kernel_rfl) ?_
  simp -implicitDefEqProofs (disch := (try simp only [sl]); try omega) only [sm,aSel,Qu,Qv,Qw,Qx,Qy,Qj,Qi,Qq,QC,Qz,bd,QF,look,aput,Qm,QB,Qf,Qb,QA,ty,↓reduceIte,Nat.reduceEqDiff,Nat.reduceAdd,Nat.reduceSub,Nat.reduceMul,Int.reduceLT,Int.reduceLE,Int.reduceNeg,Int.reduceToNat,reduceCtorEq,Nat.reduceBEq,Nat.reduceBNe,Qk,Qe,Value.cells,am,mm,keep, hcc, hg]
  refine ACalls.mono (quarter_calls [ws.getD a 0, ws.getD b 0, ws.getD c 0, ws.getD d 0] rfl _) ?_
  rintro _ H1 ⟨rfl, hE⟩
  have e1 : H1[g]? = some (.own (ws.map U32)) := hE g _ (by simp -implicitDefEqProofs (disch := (try simp only [sl]); try omega) only [sm,Qj,Qi,Qq,QC,bd,look,aput,ty,↓reduceIte,Nat.reduceEqDiff,Nat.reduceAdd,Nat.reduceSub,Nat.reduceMul,Int.reduceLT,Int.reduceLE,Int.reduceNeg,Int.reduceToNat,reduceCtorEq,Nat.reduceBEq,Nat.reduceBNe,Qk,Qe,Value.cells,am,mm,keep, hg])
  have e2 : H1[H.length]? = some (.own ([0, 0, 0, 0].map U32)) := hE H.length _ (by simp -implicitDefEqProofs (disch := (try simp only [sl]); try omega) only [sm,Qj,Qi,Qq,QC,bd,look,aput,ty,↓reduceIte,Nat.reduceEqDiff,Nat.reduceAdd,Nat.reduceSub,Nat.reduceMul,Int.reduceLT,Int.reduceLE,Int.reduceNeg,Int.reduceToNat,reduceCtorEq,Nat.reduceBEq,Nat.reduceBNe,Qk,Qe,Value.cells,am,mm,keep, U32, UInt32.toNat_zero, Int.natCast_zero])
  have l1 := got_lt e1
  have l2 := got_lt e2
  have c2 := AH.cells_own e2
  have ql : (qr [ws.getD a 0, ws.getD b 0, ws.getD c 0, ws.getD d 0]).length = 4 := qr_length _
  generalize hq : qr [ws.getD a 0, ws.getD b 0, ws.getD c 0, ws.getD d 0] = q at *
  try simp -implicitDefEqProofs (disch := (try simp only [sl]); try omega) only [sm,QJ,aSel,Qu,Qv,Qw,Qx,Qy,Qj,Qi,Qq,QC,Qz,bd,QF,look,aput,Qm,QH,QB,Qf,Qg,QI,abin,anil,QG,Qb,Qc,Qt,QA,Qs,Qr,aslice3,asl3,loN,hiN,Qh,Qa,Qd,Ql,QD,QE,acap,ty,↓reduceIte,Nat.reduceEqDiff,Nat.reduceAdd,Nat.reduceSub,Nat.reduceMul,Int.reduceLT,Int.reduceLE,Int.reduceNeg,Int.reduceToNat,reduceCtorEq,Nat.reduceBEq,Nat.reduceBNe,Qk,Qe,Value.cells,am,mm,keep, e1, e2]
  refine awp_region_drawC [(0, []), (1, []), (2, []), (3, []), (4, []), (5, []), (6, []), (7, []), (8, []), (9, []), (10, []), (11, []), (12, []), (13, [7, 9, 11]), (14, []), (15, [9, 11]), (16, []), (17, [11]), (18, []), (19, [])] mixed (by kernel_rfl) ?_
  simp -implicitDefEqProofs (disch := (try simp only [sl]); try omega) only [sm,aSel,Qu,Qv,Qw,Qx,Qy,Qj,Qi,Qq,QC,Qz,bd,QF,look,aput,Qm,QB,Qf,Qb,QA,ty,↓reduceIte,Nat.reduceEqDiff,Nat.reduceAdd,Nat.reduceSub,Nat.reduceMul,Int.reduceLT,Int.reduceLE,Int.reduceNeg,Int.reduceToNat,reduceCtorEq,Nat.reduceBEq,Nat.reduceBNe,Qk,Qe,Value.cells,am,mm,keep, e1, e2, l1, l2, ql]
  have ht : turn ws a b c d = (((ws.set a (q.getD 0 0)).set b (q.getD 1 0)).set c (q.getD 2 0)).set d (q.getD 3 0) := by rw [turn, hq]
  rw [ht]
  first | refine awp_ret ?_ | skip
  show ∃ v, aresults Try.prog Try.f54 _ _ = some v ∧ _
  rw [aresults_0  (by kernel_rfl)]
  simp -implicitDefEqProofs (disch := (try simp only [sl]); try omega) only [aresult, Option.some.injEq, exists_eq_left', sm,Qj,Qi,Qq,QC,Qz,bd,QF,look,aput,QB,Qf,QA,ty,↓reduceIte,Nat.reduceEqDiff,Nat.reduceAdd,Nat.reduceSub,Nat.reduceMul,Int.reduceLT,Int.reduceLE,Int.reduceNeg,Int.reduceToNat,reduceCtorEq,Nat.reduceBEq,Nat.reduceBNe,Qk,Qe,Value.cells,am,mm,keep]
  exact (by repeat first | assumption | exact Ext.refl _ | exact Ext.pre (by assumption) | exact Ext.pre (Ext.pre (by assumption)) | exact Ext.pre (Ext.pre (Ext.pre (by assumption))) | exact Ext.pre (Ext.pre (Ext.pre (Ext.pre (by assumption)))) | apply Ext.pushed | refine Ext.both ?_ _ _ | refine Ext.set ?_ _ (by omega))
def le32 (a b c d : UInt8) : UInt32 := a.toUInt32 ||| b.toUInt32 <<< 8 ||| c.toUInt32 <<< 16 ||| d.toUInt32 <<< 24
theorem word_le (a b c d : UInt8) : a.toUInt32 + 256 * b.toUInt32 + 65536 * c.toUInt32 + 16777216 * d.toUInt32 = le32 a b c d := by
  have ha := a.toNat_lt
  have hb := b.toNat_lt
  have hc := c.toNat_lt
  have hd := d.toNat_lt
  rw [← UInt32.toNat_inj]
  unfold le32
  simp only [UInt32.toNat_add, UInt32.toNat_mul, UInt32.toNat_or, UInt32.toNat_shiftLeft, UInt8.toNat_toUInt32, UInt32.reduceToNat, Nat.reduceMod, Nat.shiftLeft_eq]
  have e1 : a.toNat ||| b.toNat * 2 ^ 8 % 2 ^ 32 = a.toNat + b.toNat * 256 := by
    rw [Nat.mod_eq_of_lt (by omega), Nat.or_comm, Nat.mul_comm, ← Nat.two_pow_add_eq_or_of_lt (by omega)]; omega
  have e2 : (a.toNat + b.toNat * 256) ||| c.toNat * 2 ^ 16 % 2 ^ 32 = a.toNat + b.toNat * 256 + c.toNat * 65536 := by
    rw [Nat.mod_eq_of_lt (by omega), Nat.or_comm, Nat.mul_comm c.toNat, ← Nat.two_pow_add_eq_or_of_lt (by omega)]; omega
  have e3 : (a.toNat + b.toNat * 256 + c.toNat * 65536) ||| d.toNat * 2 ^ 24 % 2 ^ 32 = a.toNat + b.toNat * 256 + c.toNat * 65536 + d.toNat * 16777216 := by
    rw [Nat.mod_eq_of_lt (by omega), Nat.or_comm, Nat.mul_comm d.toNat, ← Nat.two_pow_add_eq_or_of_lt (by omega)]; omega
  rw [e1, e2, e3]
  omega
def le32L (bs : List UInt8) : UInt32 := le32 (bs.getD 0 0) (bs.getD 1 0) (bs.getD 2 0) (bs.getD 3 0)
set_option maxHeartbeats 1000000 in
theorem join_calls (v : Value) (bs : List UInt8) (H : AH) (h : SL H v (bs.map U8)) (hl : 4 ≤ bs.length) :
    ACalls Try.prog 63 #[v] H fun v H' => v = U32 (le32L bs) ∧ H' = H := by
  obtain ⟨g, o, e, cs, rfl, hc, hg, h1, k, k0⟩ := h.bytes (by omega)
  refine acalls_of_body Try.func63 rfl Try.ntmps63 (by simp) ?_
  simp only [argsT, Nat.reduceAdd]
  repeat first | refine Qo ?_ | refine Qn ?_
  refine Qp (by kernel_rfl) ?_
  simp -implicitDefEqProofs (disch := (try simp only [sl]); try omega) only [sm,QJ,Qj,Qi,Qq,QC,bd,look,aput,QB,Qf,ty,↓reduceIte,Nat.reduceEqDiff,Nat.reduceAdd,Nat.reduceSub,Nat.reduceMul,Int.reduceLT,Int.reduceLE,Int.reduceNeg,Int.reduceToNat,reduceCtorEq,Nat.reduceBEq,Nat.reduceBNe,Qk,Qe,Value.cells,am,mm,keep, hc, k, k0]
  repeat first | refine Qo ?_ | refine Qn ?_
  refine awp_region_drawC [(0, []), (1, []), (2, []), (3, []), (4, []), (5, []), (6, []), (7, []), (8, []), (9, []), (10, []), (11, []), (12, []), (13, []), (14, []), (15, []), (16, []), (17, []), (18, []), (19, []), (20, []), (21, []), (22, [])] mixed (by kernel_rfl) ?_
  simp -implicitDefEqProofs (disch := (try simp only [sl]); try omega) only [sm,aSel,Qu,Qv,Qw,Qx,Qy,Qj,Qi,Qq,QC,Qz,bd,QF,look,aput,QH,QB,Qf,Qg,QI,abin,anil,Qb,QA,ty,↓reduceIte,Nat.reduceEqDiff,Nat.reduceAdd,Nat.reduceSub,Nat.reduceMul,Int.reduceLT,Int.reduceLE,Int.reduceNeg,Int.reduceToNat,reduceCtorEq,Nat.reduceBEq,Nat.reduceBNe,Qk,Qe,Value.cells,am,mm,keep, hc, k, k0]
  first | refine awp_ret ?_ | skip
  show ∃ v, aresults Try.prog Try.f63 _ _ = some v ∧ _
  rw [aresults_1 (r := .tmp 2) (by kernel_rfl)]
  simp -implicitDefEqProofs (disch := (try simp only [sl]); try omega) only [aresult, Option.some.injEq, exists_eq_left', sm,Qj,Qi,Qq,QC,Qz,bd,QF,look,aput,QB,Qf,QA,ty,↓reduceIte,Nat.reduceEqDiff,Nat.reduceAdd,Nat.reduceSub,Nat.reduceMul,Int.reduceLT,Int.reduceLE,Int.reduceNeg,Int.reduceToNat,reduceCtorEq,Nat.reduceBEq,Nat.reduceBNe,Qk,Qe,Value.cells,am,mm,keep]
  rfl
set_option maxHeartbeats 1000000 in
theorem word_calls (v : Value) (bs : List UInt8) (H : AH) (h : SL H v (bs.map U8)) (hl : 4 ≤ bs.length) :
    ACalls Try.prog 66 #[v] H fun v H' => v = U32 (le32L bs) ∧ H' = H := by
  obtain ⟨g, o, e, cs, rfl, hc, hg, h1, k, k0⟩ := h.bytes (by omega)
  refine acalls_of_body Try.func66 rfl Try.ntmps66 (by simp) ?_
  simp only [argsT, Nat.reduceAdd]
  repeat first | refine Qo ?_ | refine Qn ?_
  refine Qp (by kernel_rfl) ?_
  simp -implicitDefEqProofs (disch := (try simp only [sl]); try omega) only [sm,QJ,Qj,Qi,Qq,QC,bd,look,aput,QB,Qf,ty,↓reduceIte,Nat.reduceEqDiff,Nat.reduceAdd,Nat.reduceSub,Nat.reduceMul,Int.reduceLT,Int.reduceLE,Int.reduceNeg,Int.reduceToNat,reduceCtorEq,Nat.reduceBEq,Nat.reduceBNe,Qk,Qe,Value.cells,am,mm,keep, hc, k, k0]
  repeat first | refine Qo ?_ | refine Qn ?_
  refine awp_region_drawC [(0, []), (1, []), (2, []), (3, []), (4, []), (5, []), (6, []), (7, []), (8, []), (9, []), (10, []), (11, []), (12, []), (13, []), (14, []), (15, []), (16, []), (17, []), (18, []), (19, []), (20, []), (21, []), (22, [])] mixed (by kernel_rfl) ?_
  simp -implicitDefEqProofs (disch := (try simp only [sl]); try omega) only [sm,aSel,Qu,Qv,Qw,Qx,Qy,Qj,Qi,Qq,QC,Qz,bd,QF,look,aput,QH,QB,Qf,Qg,QI,abin,anil,Qb,QA,ty,↓reduceIte,Nat.reduceEqDiff,Nat.reduceAdd,Nat.reduceSub,Nat.reduceMul,Int.reduceLT,Int.reduceLE,Int.reduceNeg,Int.reduceToNat,reduceCtorEq,Nat.reduceBEq,Nat.reduceBNe,Qk,Qe,Value.cells,am,mm,keep, hc, k, k0]
  first | refine awp_ret ?_ | skip
  show ∃ v, aresults Try.prog Try.f66 _ _ = some v ∧ _
  rw [aresults_1 (r := .tmp 2) (by kernel_rfl)]
  simp -implicitDefEqProofs (disch := (try simp only [sl]); try omega) only [aresult, Option.some.injEq, exists_eq_left', sm,Qj,Qi,Qq,QC,Qz,bd,QF,look,aput,QB,Qf,QA,ty,↓reduceIte,Nat.reduceEqDiff,Nat.reduceAdd,Nat.reduceSub,Nat.reduceMul,Int.reduceLT,Int.reduceLE,Int.reduceNeg,Int.reduceToNat,reduceCtorEq,Nat.reduceBEq,Nat.reduceBNe,Qk,Qe,Value.cells,am,mm,keep]
  rw [le32L, ← word_le]
end Go.Proofs.Ytpiaohajbbdpdaa

namespace Go.Proofs.Ytpiaohajbbdpdaa
open Go Go.RowKit
set_option linter.unusedSimpArgs false
set_option linter.unusedVariables false
set_option maxRecDepth 4000
def w0 : List UInt32 := [1634760805, 857760878, 2036477234, 1797285236, 0, 0, 0, 0, 0, 0, 0, 0, 0, 0, 0, 0]
def wkey (ks : List UInt8) : Nat → List UInt32
  | 0 => w0
  | i + 1 => (wkey ks i).set (4 + i) (le32L (ks.drop (4 * i)))
def wnon (ks ns : List UInt8) (c : UInt32) : Nat → List UInt32
  | 0 => (wkey ks 8).set 12 c
  | i + 1 => (wnon ks ns c i).set (13 + i) (le32L (ns.drop (4 * i)))
theorem wkey_length (ks : List UInt8) (i : Nat) : (wkey ks i).length = 16 := by induction i with
  | zero => rfl
  | succ i ih => rw [wkey, List.length_set, ih]
theorem wnon_length (ks ns : List UInt8) (c : UInt32) (i : Nat) : (wnon ks ns c i).length = 16 := by induction i with
  | zero => rw [wnon, List.length_set, wkey_length]
  | succ i ih => rw [wnon, List.length_set, ih]
set_option maxHeartbeats 4000000 in
theorem start_calls (ks ns : List UInt8) (c : UInt32) (H : AH) (hk : ks.length = 32) (hn : ns.length = 12) :
    ACalls Try.prog 53 #[.agg (ks.map U8).toArray, .agg (ns.map U8).toArray, U32 c] H fun v H' => v = .agg ((wnon ks ns c 3).map U32).toArray ∧ Ext H H' := by
  refine acalls_of_body Try.func53 rfl Try.ntmps53 (by simp) ?_
  simp only [argsT, Nat.reduceAdd]
  repeat first | refine Qo ?_ | refine Qn ?_
  refine Qp (by kernel_rfl) ?_
  simp -implicitDefEqProofs (disch := (try simp only [sl]); try omega) only [sm,QJ,Qj,Qi,Qq,QC,bd,look,aput,QB,Qf,ty,↓reduceIte,Nat.reduceEqDiff,Nat.reduceAdd,Nat.reduceSub,Nat.reduceMul,Int.reduceLT,Int.reduceLE,Int.reduceNeg,Int.reduceToNat,reduceCtorEq,Nat.reduceBEq,Nat.reduceBNe,Qk,Qe,Value.cells,am,mm,keep, hk, hn]
  repeat first | refine Qo ?_ | refine Qn ?_
  refine Qp (by kernel_rfl) ?_
  simp -implicitDefEqProofs (disch := (try simp only [sl]); try omega) only [sm,QJ,Qj,Qi,Qq,QC,bd,look,aput,Qm,QB,Qf,ty,↓reduceIte,Nat.reduceEqDiff,Nat.reduceAdd,Nat.reduceSub,Nat.reduceMul,Int.reduceLT,Int.reduceLE,Int.reduceNeg,Int.reduceToNat,reduceCtorEq,Nat.reduceBEq,Nat.reduceBNe,Qk,Qe,Value.cells,am,mm,keep, hk, hn]
  repeat first | refine Qo ?_ | refine Qn ?_
  refine Qp (by kernel_rfl) ?_
  simp -implicitDefEqProofs (disch := (try simp only [sl]); try omega) only [sm,QJ,Qj,Qi,Qq,QC,bd,look,aput,QB,Qf,ty,↓reduceIte,Nat.reduceEqDiff,Nat.reduceAdd,Nat.reduceSub,Nat.reduceMul,Int.reduceLT,Int.reduceLE,Int.reduceNeg,Int.reduceToNat,reduceCtorEq,Nat.reduceBEq,Nat.reduceBNe,Qk,Qe,Value.cells,am,mm,keep, hk, hn]
  repeat first | refine Qo ?_ | refine Qn ?_
  refine awp_for (fun i : Nat => [(11, I64 i), (7, .pointer (some ⟨H.length + 3, 0, none⟩)), (6, .pointer (some ⟨H.length + 2, 0, none⟩)), (4, .pointer (some ⟨H.length + 1, 0, none⟩)), (3, .pointer (some ⟨H.length, 0, none⟩)), (2, U32 c)])
    (fun i => H ++ [.own (ks.map U8)] ++ [.own (ns.map U8)] ++ [.own (List.replicate 16 (.int .u32 0))] ++ [.own ((wkey ks i).map U32)]) (fun i => i ≤ 8) (fun i => 8 - i) 0 (by omega) (by repeat first | exact Forgets.nil | refine Forgets.cons (by first | (simp only [look, ↓reduceIte, Nat.reduceEqDiff]; done) | (simp only [look, ↓reduceIte, Nat.reduceEqDiff]; rfl) | simp [look]) ?_) rfl ?_
  intro i hi
  have hwl := wkey_length ks i
  repeat first | refine Qo ?_ | refine Qn ?_
  refine Qp (by kernel_rfl) ?_
  simp -implicitDefEqProofs (disch := (try simp only [sl]); try omega) only [sm,QJ,Qj,Qi,Qq,QC,bd,look,aput,QB,Qf,QI,abin,anil,ty,↓reduceIte,Nat.reduceEqDiff,Nat.reduceAdd,Nat.reduceSub,Nat.reduceMul,Int.reduceLT,Int.reduceLE,Int.reduceNeg,Int.reduceToNat,reduceCtorEq,Nat.reduceBEq,Nat.reduceBNe,Qk,Qe,Value.cells,am,mm,keep]
  repeat first | refine Qo ?_ | refine Qn ?_
  refine awp_if (decide (i < 8)) rfl (by first | (simp only [aeval_tmp, look, ↓reduceIte, Nat.reduceEqDiff]; try rfl) | rfl) ?_ ?_
  rotate_left
  · intro h
    have h := of_decide_eq_false h
    obtain rfl : i = 8 := by omega
    refine awp_exit ?_
    simp -implicitDefEqProofs (disch := (try simp only [sl]); try omega) only [sm,Qj,Qi,Qq,QC,bd,look,aput,QB,Qf,ty,↓reduceIte,Nat.reduceEqDiff,Nat.reduceAdd,Nat.reduceSub,Nat.reduceMul,Int.reduceLT,Int.reduceLE,Int.reduceNeg,Int.reduceToNat,reduceCtorEq,Nat.reduceBEq,Nat.reduceBNe,Qk,Qe,Value.cells,am,mm,keep]
    repeat first | refine Qo ?_ | refine Qn ?_
    refine Qp (by kernel_rfl) ?_
    simp -implicitDefEqProofs (disch := (try simp only [sl]); try omega) only [sm,QJ,Qj,Qi,Qq,QC,bd,look,aput,Qm,QB,Qf,Qb,ty,↓reduceIte,Nat.reduceEqDiff,Nat.reduceAdd,Nat.reduceSub,Nat.reduceMul,Int.reduceLT,Int.reduceLE,Int.reduceNeg,Int.reduceToNat,reduceCtorEq,Nat.reduceBEq,Nat.reduceBNe,Qk,Qe,Value.cells,am,mm,keep, hwl]
    repeat first | refine Qo ?_ | refine Qn ?_
    refine Qp (by kernel_rfl) ?_
    simp -implicitDefEqProofs (disch := (try simp only [sl]); try omega) only [sm,QJ,Qj,Qi,Qq,QC,bd,look,aput,QB,Qf,ty,↓reduceIte,Nat.reduceEqDiff,Nat.reduceAdd,Nat.reduceSub,Nat.reduceMul,Int.reduceLT,Int.reduceLE,Int.reduceNeg,Int.reduceToNat,reduceCtorEq,Nat.reduceBEq,Nat.reduceBNe,Qk,Qe,Value.cells,am,mm,keep, hwl]
    repeat first | refine Qo ?_ | refine Qn ?_
    refine awp_for (fun i : Nat => [(24, I64 i), (7, .pointer (some ⟨H.length + 3, 0, none⟩)), (6, .pointer (some ⟨H.length + 2, 0, none⟩)), (4, .pointer (some ⟨H.length + 1, 0, none⟩))])
      (fun i => H ++ [.own (ks.map U8)] ++ [.own (ns.map U8)] ++ [.own (List.replicate 16 (.int .u32 0))] ++ [.own ((wnon ks ns c i).map U32)]) (fun i => i ≤ 3) (fun i => 3 - i) 0 (by omega) (by repeat first | exact Forgets.nil | refine Forgets.cons (by first | (simp only [look, ↓reduceIte, Nat.reduceEqDiff]; done) | (simp only [look, ↓reduceIte, Nat.reduceEqDiff]; rfl) | simp [look]) ?_) rfl ?_
    intro i hi
    have hwl := wnon_length ks ns c i
    repeat first | refine Qo ?_ | refine Qn ?_
    refine Qp (by kernel_rfl) ?_
    simp -implicitDefEqProofs (disch := (try simp only [sl]); try omega) only [sm,QJ,Qj,Qi,Qq,QC,bd,look,aput,QB,Qf,QI,abin,anil,ty,↓reduceIte,Nat.reduceEqDiff,Nat.reduceAdd,Nat.reduceSub,Nat.reduceMul,Int.reduceLT,Int.reduceLE,Int.reduceNeg,Int.reduceToNat,reduceCtorEq,Nat.reduceBEq,Nat.reduceBNe,Qk,Qe,Value.cells,am,mm,keep]
    repeat first | refine Qo ?_ | refine Qn ?_
    refine awp_if (decide (i < 3)) rfl (by first | (simp only [aeval_tmp, look, ↓reduceIte, Nat.reduceEqDiff]; try rfl) | rfl) ?_ ?_
    rotate_left
    · intro h
      have h := of_decide_eq_false h
      obtain rfl : i = 3 := by omega
      refine awp_exit ?_
      simp -implicitDefEqProofs (disch := (try simp only [sl]); try omega) only [sm,Qj,Qi,Qq,QC,bd,look,aput,QB,Qf,ty,↓reduceIte,Nat.reduceEqDiff,Nat.reduceAdd,Nat.reduceSub,Nat.reduceMul,Int.reduceLT,Int.reduceLE,Int.reduceNeg,Int.reduceToNat,reduceCtorEq,Nat.reduceBEq,Nat.reduceBNe,Qk,Qe,Value.cells,am,mm,keep]
      repeat first | refine Qo ?_ | refine Qn ?_
      refine Qp (by kernel_rfl) ?_
      simp -implicitDefEqProofs (disch := (try simp only [sl]); try omega) only [sm,QJ,Qj,Qi,Qq,QC,Qz,bd,QF,look,aput,Qm,QB,Qf,QA,ty,↓reduceIte,Nat.reduceEqDiff,Nat.reduceAdd,Nat.reduceSub,Nat.reduceMul,Int.reduceLT,Int.reduceLE,Int.reduceNeg,Int.reduceToNat,reduceCtorEq,Nat.reduceBEq,Nat.reduceBNe,Qk,Qe,Value.cells,am,mm,keep, hwl]
      first | refine awp_ret ?_ | skip
      show ∃ v, aresults Try.prog Try.f53 _ _ = some v ∧ _
      rw [aresults_1 (r := .cell 6 102) (by kernel_rfl)]
      simp -implicitDefEqProofs (disch := (try simp only [sl]); try omega) only [aresult, Option.some.injEq, exists_eq_left', sm,Qj,Qi,Qq,QC,Qz,bd,QF,look,aput,QB,Qf,QA,ty,↓reduceIte,Nat.reduceEqDiff,Nat.reduceAdd,Nat.reduceSub,Nat.reduceMul,Int.reduceLT,Int.reduceLE,Int.reduceNeg,Int.reduceToNat,reduceCtorEq,Nat.reduceBEq,Nat.reduceBNe,Qk,Qe,Value.cells,am,mm,keep]
      exact (by repeat first | assumption | exact Ext.refl _ | exact Ext.pre (by assumption) | exact Ext.pre (Ext.pre (by assumption)) | exact Ext.pre (Ext.pre (Ext.pre (by assumption))) | exact Ext.pre (Ext.pre (Ext.pre (Ext.pre (by assumption)))) | apply Ext.pushed | refine Ext.both ?_ _ _ | refine Ext.set ?_ _ (by omega))
    intro h
    have h := of_decide_eq_true h
    refine awp_skip ?_
    simp -implicitDefEqProofs (disch := (try simp only [sl]); try omega) only [sm,Qj,Qi,Qq,QC,bd,look,aput,QB,Qf,ty,↓reduceIte,Nat.reduceEqDiff,Nat.reduceAdd,Nat.reduceSub,Nat.reduceMul,Int.reduceLT,Int.reduceLE,Int.reduceNeg,Int.reduceToNat,reduceCtorEq,Nat.reduceBEq,Nat.reduceBNe,Qk,Qe,Value.cells,am,mm,keep]
    repeat first | refine Qo ?_ | refine Qn ?_
    refine Qp (by kernel_rfl) ?_
    simp -implicitDefEqProofs (disch := (try simp only [sl]); try omega) only [sm,QJ,Qj,Qi,Qq,QC,bd,look,aput,QB,Qf,ty,↓reduceIte,Nat.reduceEqDiff,Nat.reduceAdd,Nat.reduceSub,Nat.reduceMul,Int.reduceLT,Int.reduceLE,Int.reduceNeg,Int.reduceToNat,reduceCtorEq,Nat.reduceBEq,Nat.reduceBNe,Qk,Qe,Value.cells,am,mm,keep, hk, hn]
    repeat first | refine Qo ?_ | refine Qn ?_
    refine Qp (by kernel_rfl) ?_
    simp -implicitDefEqProofs (disch := (try simp only [sl]); try omega) only [sm,QJ,Qj,Qi,Qq,QC,bd,look,aput,Qm,QB,Qf,QI,abin,anil,Qb,Qr,aslice3,asl3,loN,hiN,ty,↓reduceIte,Nat.reduceEqDiff,Nat.reduceAdd,Nat.reduceSub,Nat.reduceMul,Int.reduceLT,Int.reduceLE,Int.reduceNeg,Int.reduceToNat,reduceCtorEq,Nat.reduceBEq,Nat.reduceBNe,Qk,Qe,Value.cells,am,mm,keep, hk, hn]
    refine ACalls.mono (join_calls _ (ns.drop (4 * i)) _ (SL.tail _ (by simp -implicitDefEqProofs (disch := (try simp only [sl]); try omega) only [sm,Qj,Qi,Qq,QC,bd,look,aput,ty,↓reduceIte,Nat.reduceEqDiff,Nat.reduceAdd,Nat.reduceSub,Nat.reduceMul,Int.reduceLT,Int.reduceLE,Int.reduceNeg,Int.reduceToNat,reduceCtorEq,Nat.reduceBEq,Nat.reduceBNe,Qk,Qe,Value.cells,am,mm,keep]) (by omega)) (by rw [List.length_drop]; omega)) ?_
    rintro _ _ ⟨rfl, hHH⟩
    rw [hHH]
    clear hHH
    simp -implicitDefEqProofs (disch := (try simp only [sl]); try omega) only [sm,QJ,aSel,Qu,Qv,Qw,Qx,Qy,Qj,Qi,Qq,QC,Qz,bd,QF,look,aput,Qm,QH,QB,Qf,Qg,QI,abin,anil,QG,Qb,Qc,Qt,QA,Qs,Qr,aslice3,asl3,loN,hiN,Qh,Qa,Qd,Ql,QD,QE,acap,ty,↓reduceIte,Nat.reduceEqDiff,Nat.reduceAdd,Nat.reduceSub,Nat.reduceMul,Int.reduceLT,Int.reduceLE,Int.reduceNeg,Int.reduceToNat,reduceCtorEq,Nat.reduceBEq,Nat.reduceBNe,Qk,Qe,Value.cells,am,mm,keep]
    repeat first | refine Qo ?_ | refine Qn ?_
    refine Qp (by kernel_rfl) ?_
    simp -implicitDefEqProofs (disch := (try simp only [sl]); try omega) only [sm,QJ,Qj,Qi,Qq,QC,bd,look,aput,QB,Qf,QI,abin,anil,ty,↓reduceIte,Nat.reduceEqDiff,Nat.reduceAdd,Nat.reduceSub,Nat.reduceMul,Int.reduceLT,Int.reduceLE,Int.reduceNeg,Int.reduceToNat,reduceCtorEq,Nat.reduceBEq,Nat.reduceBNe,Qk,Qe,Value.cells,am,mm,keep]
    exact ⟨i + 1, by omega, (by repeat first | exact Forgets.nil | refine Forgets.cons (by first | (simp only [look, ↓reduceIte, Nat.reduceEqDiff]; done) | (simp only [look, ↓reduceIte, Nat.reduceEqDiff]; rfl) | simp [look]) ?_), rfl, by omega⟩
  intro h
  have h := of_decide_eq_true h
  refine awp_skip ?_
  simp -implicitDefEqProofs (disch := (try simp only [sl]); try omega) only [sm,Qj,Qi,Qq,QC,bd,look,aput,QB,Qf,ty,↓reduceIte,Nat.reduceEqDiff,Nat.reduceAdd,Nat.reduceSub,Nat.reduceMul,Int.reduceLT,Int.reduceLE,Int.reduceNeg,Int.reduceToNat,reduceCtorEq,Nat.reduceBEq,Nat.reduceBNe,Qk,Qe,Value.cells,am,mm,keep]
  repeat first | refine Qo ?_ | refine Qn ?_
  refine Qp (by kernel_rfl) ?_
  simp -implicitDefEqProofs (disch := (try simp only [sl]); try omega) only [sm,QJ,Qj,Qi,Qq,QC,bd,look,aput,QB,Qf,ty,↓reduceIte,Nat.reduceEqDiff,Nat.reduceAdd,Nat.reduceSub,Nat.reduceMul,Int.reduceLT,Int.reduceLE,Int.reduceNeg,Int.reduceToNat,reduceCtorEq,Nat.reduceBEq,Nat.reduceBNe,Qk,Qe,Value.cells,am,mm,keep, hk, hn]
  repeat first | refine Qo ?_ | refine Qn ?_
  refine Qp (by kernel_rfl) ?_
  simp -implicitDefEqProofs (disch := (try simp only [sl]); try omega) only [sm,QJ,Qj,Qi,Qq,QC,bd,look,aput,Qm,QB,Qf,QI,abin,anil,Qb,Qr,aslice3,asl3,loN,hiN,ty,↓reduceIte,Nat.reduceEqDiff,Nat.reduceAdd,Nat.reduceSub,Nat.reduceMul,Int.reduceLT,Int.reduceLE,Int.reduceNeg,Int.reduceToNat,reduceCtorEq,Nat.reduceBEq,Nat.reduceBNe,Qk,Qe,Value.cells,am,mm,keep, hk, hn]
  refine ACalls.mono (join_calls _ (ks.drop (4 * i)) _ (SL.tail _ (by simp -implicitDefEqProofs (disch := (try simp only [sl]); try omega) only [sm,Qj,Qi,Qq,QC,bd,look,aput,ty,↓reduceIte,Nat.reduceEqDiff,Nat.reduceAdd,Nat.reduceSub,Nat.reduceMul,Int.reduceLT,Int.reduceLE,Int.reduceNeg,Int.reduceToNat,reduceCtorEq,Nat.reduceBEq,Nat.reduceBNe,Qk,Qe,Value.cells,am,mm,keep]) (by omega)) (by rw [List.length_drop]; omega)) ?_
  rintro _ _ ⟨rfl, hHH⟩
  rw [hHH]
  clear hHH
  simp -implicitDefEqProofs (disch := (try simp only [sl]); try omega) only [sm,QJ,aSel,Qu,Qv,Qw,Qx,Qy,Qj,Qi,Qq,QC,Qz,bd,QF,look,aput,Qm,QH,QB,Qf,Qg,QI,abin,anil,QG,Qb,Qc,Qt,QA,Qs,Qr,aslice3,asl3,loN,hiN,Qh,Qa,Qd,Ql,QD,QE,acap,ty,↓reduceIte,Nat.reduceEqDiff,Nat.reduceAdd,Nat.reduceSub,Nat.reduceMul,Int.reduceLT,Int.reduceLE,Int.reduceNeg,Int.reduceToNat,reduceCtorEq,Nat.reduceBEq,Nat.reduceBNe,Qk,Qe,Value.cells,am,mm,keep]
  repeat first | refine Qo ?_ | refine Qn ?_
  refine Qp (by kernel_rfl) ?_
  simp -implicitDefEqProofs (disch := (try simp only [sl]); try omega) only [sm,QJ,Qj,Qi,Qq,QC,bd,look,aput,QB,Qf,QI,abin,anil,ty,↓reduceIte,Nat.reduceEqDiff,Nat.reduceAdd,Nat.reduceSub,Nat.reduceMul,Int.reduceLT,Int.reduceLE,Int.reduceNeg,Int.reduceToNat,reduceCtorEq,Nat.reduceBEq,Nat.reduceBNe,Qk,Qe,Value.cells,am,mm,keep]
  exact ⟨i + 1, by omega, (by repeat first | exact Forgets.nil | refine Forgets.cons (by first | (simp only [look, ↓reduceIte, Nat.reduceEqDiff]; done) | (simp only [look, ↓reduceIte, Nat.reduceEqDiff]; rfl) | simp [look]) ?_), rfl, by omega⟩
end Go.Proofs.Ytpiaohajbbdpdaa
