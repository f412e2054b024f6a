/- ledger: Last, of one that nobody made. -/
import Derived.Test.YtldfnfpinemedaaLna
namespace Go.Proofs.Ytldfnfpinemedaa
open Go Go.RowKit
set_option linter.unusedSimpArgs false
set_option linter.unusedVariables false
set_option maxRecDepth 4000
set_option maxHeartbeats 4000000 in
theorem nlast_calls (pv : Value) (b : Int) (H : AH) (h : Nob pv H) : ACalls Try.prog 31 #[pv, .int .i64 b] H fun v H' => v = .tuple #[.int .u32 0, .bool false] ∧ Ext H H' := by
  refine acalls_of_range0 Try.func31 rfl Try.ntmps31 (by simp) rfl ?_
  simp only [argsT, Nat.reduceAdd]
  have fo_ : True := trivial
  have N_ := Now.start H
  have f_ := N_.has
  simp only [Has] at f_
  refine Qp (by kernel_rfl) ?_
  simp -implicitDefEqProofs (disch := (try simp only [sl]); try omega) only [sm,QJ,Qj,Qi,Qq,QC,bd,look,aput,QB,Qf,ty,↓reduceIte,Nat.reduceEqDiff,Nat.reduceAdd,Nat.reduceSub,Nat.reduceMul,Int.reduceLT,Int.reduceLE,Int.reduceNeg,Int.reduceToNat,reduceCtorEq,Nat.reduceBEq,Nat.reduceBNe,Qk,Qe,Value.cells,am,mm,keep, aint]
  simp only [noExit]
  first | refine AWp.snap8 N_ ?_ | refine AWp.snap7 N_ ?_ | refine AWp.snap6 N_ ?_ | refine AWp.snap5 N_ ?_ | refine AWp.snap4 N_ ?_ | refine AWp.snap3 N_ ?_ | refine AWp.snap2 N_ ?_ | refine AWp.snap1 N_ ?_
  clear fo_; have fo_ := f_; clear f_ N_; intro H1 xH1 lH1 N_
  have f_ := N_.has
  simp only [Has] at f_
  refine Qp (by kernel_rfl) ?_
  simp -implicitDefEqProofs (disch := (try simp only [sl]); try omega) only [sm,QJ,Qj,Qi,Qq,QC,bd,look,aput,Qm,QB,Qf,ty,↓reduceIte,Nat.reduceEqDiff,Nat.reduceAdd,Nat.reduceSub,Nat.reduceMul,Int.reduceLT,Int.reduceLE,Int.reduceNeg,Int.reduceToNat,reduceCtorEq,Nat.reduceBEq,Nat.reduceBNe,Qk,Qe,Value.cells,am,mm,keep, aint]
  refine ACalls.mono (nrun_calls pv H1 (h.mono xH1)) ?_
  rintro _ G ⟨rfl, rfl⟩
  try simp -implicitDefEqProofs (disch := (try simp only [sl]); try omega) only [sm,QJ,aSel,Qu,Qv,Qw,Qx,Qy,Qj,Qi,Qq,QC,Qz,bd,QF,look,aput,Qm,QH,QB,Qf,Qg,QI,abin,anil,QG,Qb,Qc,Qt,QA,Qs,Qr,aslice3,asl3,loN,hiN,Qh,Qa,Qd,Ql,QD,QE,acap,ty,↓reduceIte,Nat.reduceEqDiff,Nat.reduceAdd,Nat.reduceSub,Nat.reduceMul,Int.reduceLT,Int.reduceLE,Int.reduceNeg,Int.reduceToNat,reduceCtorEq,Nat.reduceBEq,Nat.reduceBNe,Qk,Qe,Value.cells,am,mm,keep, aint]
  refine ACalls.mono (back_calls G) ?_
  rintro _ G2 ⟨rfl, hG2⟩
  have hq2 : G2[G.length]? = some (.own [.slice none 0 0]) := by rw [hG2]; exact gpush _ _
  have x2 : Ext G G2 := by rw [hG2]; exact Ext.push _ _
  clear hG2
  replace N_ := N_.grow x2
  clear fo_; have fo_ := f_; clear f_
  have f_ := N_.has
  simp only [Has] at f_
  try simp -implicitDefEqProofs (disch := (try simp only [sl]); try omega) only [sm,QJ,aSel,Qu,Qv,Qw,Qx,Qy,Qj,Qi,Qq,QC,Qz,bd,QF,look,aput,Qm,QH,QB,Qf,Qg,QI,abin,anil,QG,Qb,Qc,Qt,QA,Qs,Qr,aslice3,asl3,loN,hiN,Qh,Qa,Qd,Ql,QD,QE,acap,ty,↓reduceIte,Nat.reduceEqDiff,Nat.reduceAdd,Nat.reduceSub,Nat.reduceMul,Int.reduceLT,Int.reduceLE,Int.reduceNeg,Int.reduceToNat,reduceCtorEq,Nat.reduceBEq,Nat.reduceBNe,Qk,Qe,Value.cells,am,mm,keep, aint]
  simp only [noExit]
  refine ⟨67, #[.pointer (some ⟨G.length, 0, none⟩)], by simp only [look, ↓reduceIte, Nat.reduceEqDiff], by kernel_rfl, ?_⟩
  refine ACalls.mono (back1_calls undef G.length G2 hq2) ?_
  rintro _ G3 rfl
  repeat first | refine Qo ?_ | refine Qn ?_
  refine Qp (by kernel_rfl) ?_
  simp -implicitDefEqProofs (disch := (try simp only [sl]); try omega) only [sm,QJ,Qj,Qi,Qq,QC,bd,look,aput,Qm,QB,Qf,ty,↓reduceIte,Nat.reduceEqDiff,Nat.reduceAdd,Nat.reduceSub,Nat.reduceMul,Int.reduceLT,Int.reduceLE,Int.reduceNeg,Int.reduceToNat,reduceCtorEq,Nat.reduceBEq,Nat.reduceBNe,Qk,Qe,Value.cells,am,mm,keep, aint, f_]
  first | refine awp_ret ?_ | skip
  show ∃ v, aresults Try.prog Try.f31 _ _ = some v ∧ _
  rw [aresults_2 (r := .cell 4 27) (s := .cell 5 4) (by kernel_rfl)]
  simp -implicitDefEqProofs (disch := (try simp only [sl]); try omega) only [aresult, Option.some.injEq, exists_eq_left', sm,Qj,Qi,Qq,QC,Qz,bd,QF,look,aput,QB,Qf,QA,ty,↓reduceIte,Nat.reduceEqDiff,Nat.reduceAdd,Nat.reduceSub,Nat.reduceMul,Int.reduceLT,Int.reduceLE,Int.reduceNeg,Int.reduceToNat,reduceCtorEq,Nat.reduceBEq,Nat.reduceBNe,Qk,Qe,Value.cells,am,mm,keep, f_]
  exact ⟨_, rfl, rfl, (N_.ext.set _ (by omega)).set _ (by omega)⟩
end Go.Proofs.Ytldfnfpinemedaa
