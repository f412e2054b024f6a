/- cipher.Block: the bytes of a block. -/
import Derived.Test.YtpiaohajbbdpdaaCst
import Derived.Test.YtpiaohajbbdpdaaC6
namespace Go.Proofs.Ytpiaohajbbdpdaa
open Go Go.RowKit
set_option linter.unusedSimpArgs false
set_option linter.unusedVariables false
set_option maxRecDepth 4000
def colR (w : List UInt32) : Nat → List UInt32
  | 0 => w
  | i + 1 => turn (colR w i) i (4 + i) (8 + i) (12 + i)
def diaR (w : List UInt32) : Nat → List UInt32
  | 0 => w
  | i + 1 => turn (diaR w i) i (4 + (i + 1) % 4) (8 + (i + 2) % 4) (12 + (i + 3) % 4)
def roundsR (w : List UInt32) : Nat → List UInt32
  | 0 => w
  | i + 1 => diaR (colR (roundsR w i) 4) 4
theorem colR_length (w : List UInt32) (i : Nat) : (colR w i).length = w.length := by induction i with
  | zero => rfl
  | succ i ih => rw [colR, turn_length, ih]
theorem diaR_length (w : List UInt32) (i : Nat) : (diaR w i).length = w.length := by induction i with
  | zero => rfl
  | succ i ih => rw [diaR, turn_length, ih]
theorem roundsR_length (w : List UInt32) (i : Nat) : (roundsR w i).length = w.length := by induction i with
  | zero => rfl
  | succ i ih => rw [roundsR, diaR_length, colR_length, ih]
def byteAt (w f : List UInt32) (i : Nat) : UInt8 := ((w.getD (i / 4) 0 + f.getD (i / 4) 0) >>> UInt32.ofNat (8 * (i % 4))).toUInt8
def outB (f : List UInt32) : List UInt8 := (List.range 64).map (byteAt (roundsR f 10) f)
def blockB (ks ns : List UInt8) (c : UInt32) : List UInt8 := outB (wnon ks ns c 3)
theorem blockB_length (ks ns : List UInt8) (c : UInt32) : (blockB ks ns c).length = 64 := by rw [blockB, outB, List.length_map, List.length_range]
def BkI (H0 : AH) (l p q : Nat) (f w : List UInt32) (H : AH) : Prop := Ext H0 H ∧ H[l]? = some (.own ((zb 64).map U8)) ∧ H[p]? = some (.own (f.map U32)) ∧ H[q]? = some (.own (w.map U32))
theorem BkI.turn {H0 H H' : AH} {l p q : Nat} {f w w' : List UInt32} (h : BkI H0 l p q f w H) (h1 : H0.length ≤ l) (h2 : l < p) (h3 : p < q) (hE : Ext (H.set q (.own (w'.map U32))) H') : BkI H0 l p q f w' H' :=
  ⟨Ext.over h.1 (by omega) hE, hE.ne (by omega) h.2.1, hE.ne (by omega) h.2.2.1, hE.self (got_lt h.2.2.2)⟩
set_option maxHeartbeats 4000000 in
theorem block_calls (ks ns : List UInt8) (c : UInt32) (H : AH) (hk : ks.length = 32) (hn : ns.length = 12) :
    ACalls Try.prog 43 #[.agg (ks.map U8).toArray, .agg (ns.map U8).toArray, U32 c] H fun v H' => v = .agg ((blockB ks ns c).map U8).toArray ∧ Ext H H' := by
  refine acalls_of_body Try.func43 rfl Try.ntmps43 (by simp) ?_
  simp only [argsT, Nat.reduceAdd]
  repeat first | refine Qo ?_ | refine Qn ?_
  refine Qp (by kernel_rfl) ?_
  simp -implicitDefEqProofs (disch := (try simp only [sl]); try omega) only [sm,QJ,Qj,Qi,Qq,QC,bd,look,aput,QB,Qf,ty,↓reduceIte,Nat.reduceEqDiff,Nat.reduceAdd,Nat.reduceSub,Nat.reduceMul,Int.reduceLT,Int.reduceLE,Int.reduceNeg,Int.reduceToNat,reduceCtorEq,Nat.reduceBEq,Nat.reduceBNe,Qk,Qe,Value.cells,am,mm,keep, hk, hn]
  repeat first | refine Qo ?_ | refine Qn ?_
  refine Qp (by kernel_rfl) ?_
  simp -implicitDefEqProofs (disch := (try simp only [sl]); try omega) only [sm,QJ,Qj,Qi,Qq,QC,Qz,bd,QF,look,aput,Qm,QB,Qf,QA,ty,↓reduceIte,Nat.reduceEqDiff,Nat.reduceAdd,Nat.reduceSub,Nat.reduceMul,Int.reduceLT,Int.reduceLE,Int.reduceNeg,Int.reduceToNat,reduceCtorEq,Nat.reduceBEq,Nat.reduceBNe,Qk,Qe,Value.cells,am,mm,keep, hk, hn]
  refine ACalls.mono (start_calls ks ns c _ hk hn) ?_
  rintro _ H1 ⟨rfl, hE⟩
  have hz : H1[H.length + 2]? = some (.own ((zb 64).map U8)) := hE _ _ (by simp -implicitDefEqProofs (disch := (try simp only [sl]); try omega) only [sm,Qj,Qi,Qq,QC,bd,look,aput,ty,↓reduceIte,Nat.reduceEqDiff,Nat.reduceAdd,Nat.reduceSub,Nat.reduceMul,Int.reduceLT,Int.reduceLE,Int.reduceNeg,Int.reduceToNat,reduceCtorEq,Nat.reduceBEq,Nat.reduceBNe,Qk,Qe,Value.cells,am,mm,keep, QO])
  have h0 : Ext H H1 := (by repeat first | assumption | exact Ext.refl _ | exact Ext.pre (by assumption) | exact Ext.pre (Ext.pre (by assumption)) | exact Ext.pre (Ext.pre (Ext.pre (by assumption))) | exact Ext.pre (Ext.pre (Ext.pre (Ext.pre (by assumption)))) | apply Ext.pushed | refine Ext.both ?_ _ _ | refine Ext.set ?_ _ (by omega))
  have hfl := wnon_length ks ns c 3
  have hB : blockB ks ns c = outB (wnon ks ns c 3) := rfl
  rw [hB]
  generalize wnon ks ns c 3 = f at *
  have l1 := got_lt hz
  try simp -implicitDefEqProofs (disch := (try simp only [sl]); try omega) only [sm,QJ,aSel,Qu,Qv,Qw,Qx,Qy,Qj,Qi,Qq,QC,Qz,bd,QF,look,aput,Qm,QH,QB,Qf,Qg,QI,abin,anil,QG,Qb,Qc,Qt,QA,Qs,Qr,aslice3,asl3,loN,hiN,Qh,Qa,Qd,Ql,QD,QE,acap,ty,↓reduceIte,Nat.reduceEqDiff,Nat.reduceAdd,Nat.reduceSub,Nat.reduceMul,Int.reduceLT,Int.reduceLE,Int.reduceNeg,Int.reduceToNat,reduceCtorEq,Nat.reduceBEq,Nat.reduceBNe,Qk,Qe,Value.cells,am,mm,keep, hfl]
  repeat first | refine Qo ?_ | refine Qn ?_
  refine Qp (by kernel_rfl) ?_
  simp -implicitDefEqProofs (disch := (try simp only [sl]); try omega) only [sm,QJ,Qj,Qi,Qq,QC,Qz,bd,QF,look,aput,Qm,QB,Qf,QA,ty,↓reduceIte,Nat.reduceEqDiff,Nat.reduceAdd,Nat.reduceSub,Nat.reduceMul,Int.reduceLT,Int.reduceLE,Int.reduceNeg,Int.reduceToNat,reduceCtorEq,Nat.reduceBEq,Nat.reduceBNe,Qk,Qe,Value.cells,am,mm,keep, hfl]
  repeat first | refine Qo ?_ | refine Qn ?_
  refine Qp (by kernel_rfl) ?_
  simp -implicitDefEqProofs (disch := (try simp only [sl]); try omega) only [sm,QJ,Qj,Qi,Qq,QC,bd,look,aput,QB,Qf,ty,↓reduceIte,Nat.reduceEqDiff,Nat.reduceAdd,Nat.reduceSub,Nat.reduceMul,Int.reduceLT,Int.reduceLE,Int.reduceNeg,Int.reduceToNat,reduceCtorEq,Nat.reduceBEq,Nat.reduceBNe,Qk,Qe,Value.cells,am,mm,keep, hfl]
  repeat first | refine Qo ?_ | refine Qn ?_
  refine Qp (by kernel_rfl) ?_
  simp -implicitDefEqProofs (disch := (try simp only [sl]); try omega) only [sm,QJ,Qj,Qi,Qq,QC,bd,look,aput,QB,Qf,ty,↓reduceIte,Nat.reduceEqDiff,Nat.reduceAdd,Nat.reduceSub,Nat.reduceMul,Int.reduceLT,Int.reduceLE,Int.reduceNeg,Int.reduceToNat,reduceCtorEq,Nat.reduceBEq,Nat.reduceBNe,Qk,Qe,Value.cells,am,mm,keep, hfl]
  have hI : BkI H (H.length + 2) H1.length (H1.length + 1) f f (H1 ++ [.own (f.map U32)] ++ [.own (f.map U32)]) := ⟨(by repeat first | assumption | exact Ext.refl _ | exact Ext.pre (by assumption) | exact Ext.pre (Ext.pre (by assumption)) | exact Ext.pre (Ext.pre (Ext.pre (by assumption))) | exact Ext.pre (Ext.pre (Ext.pre (Ext.pre (by assumption)))) | apply Ext.pushed | refine Ext.both ?_ _ _ | refine Ext.set ?_ _ (by omega)), (by simp -implicitDefEqProofs (disch := (try simp only [sl]); try omega) only [sm,Qj,Qi,Qq,QC,bd,look,aput,ty,↓reduceIte,Nat.reduceEqDiff,Nat.reduceAdd,Nat.reduceSub,Nat.reduceMul,Int.reduceLT,Int.reduceLE,Int.reduceNeg,Int.reduceToNat,reduceCtorEq,Nat.reduceBEq,Nat.reduceBNe,Qk,Qe,Value.cells,am,mm,keep, hz]), (by simp -implicitDefEqProofs (disch := (try simp only [sl]); try omega) only [sm,Qj,Qi,Qq,QC,bd,look,aput,ty,↓reduceIte,Nat.reduceEqDiff,Nat.reduceAdd,Nat.reduceSub,Nat.reduceMul,Int.reduceLT,Int.reduceLE,Int.reduceNeg,Int.reduceToNat,reduceCtorEq,Nat.reduceBEq,Nat.reduceBNe,Qk,Qe,Value.cells,am,mm,keep]), (by simp -implicitDefEqProofs (disch := (try simp only [sl]); try omega) only [sm,Qj,Qi,Qq,QC,bd,look,aput,ty,↓reduceIte,Nat.reduceEqDiff,Nat.reduceAdd,Nat.reduceSub,Nat.reduceMul,Int.reduceLT,Int.reduceLE,Int.reduceNeg,Int.reduceToNat,reduceCtorEq,Nat.reduceBEq,Nat.reduceBNe,Qk,Qe,Value.cells,am,mm,keep])⟩
  generalize hH2 : H1 ++ [ABlk.own (f.map U32)] ++ [ABlk.own (f.map U32)] = H2 at *
  clear hH2
  generalize hp : H1.length = p at *
  clear hz hE hp h0
  repeat first | refine Qo ?_ | refine Qn ?_
  refine awp_for (fun i : Nat × AH => [(20, I64 i.1), (9, .func (.func 54) #[] #[.pointer (some ⟨p + 1, 0, none⟩)]), (8, .pointer (some ⟨p + 1, 0, none⟩)), (7, .pointer (some ⟨p, 0, none⟩)), (6, .pointer (some ⟨H.length + 2, 0, none⟩))])
    (fun i => i.2) (fun i => i.1 ≤ 10 ∧ BkI H (H.length + 2) p (p + 1) f (roundsR f i.1) i.2) (fun i => 10 - i.1) (0, H2) ⟨by omega, hI⟩ (by repeat first | exact Forgets.nil | refine Forgets.cons (by first | (simp only [look, ↓reduceIte, Nat.reduceEqDiff]; done) | (simp only [look, ↓reduceIte, Nat.reduceEqDiff]; rfl) | simp [look]) ?_) rfl ?_
  rintro ⟨r, H3⟩ ⟨hr, hI⟩
  have hwl := roundsR_length f r
  simp only [] at hr hI ⊢
  repeat first | refine Qo ?_ | refine Qn ?_
  refine Qp (by kernel_rfl) ?_
  simp -implicitDefEqProofs (disch := (try simp only [sl]); try omega) only [sm,QJ,Qj,Qi,Qq,QC,bd,look,aput,QB,Qf,QI,abin,anil,ty,↓reduceIte,Nat.reduceEqDiff,Nat.reduceAdd,Nat.reduceSub,Nat.reduceMul,Int.reduceLT,Int.reduceLE,Int.reduceNeg,Int.reduceToNat,reduceCtorEq,Nat.reduceBEq,Nat.reduceBNe,Qk,Qe,Value.cells,am,mm,keep]
  repeat first | refine Qo ?_ | refine Qn ?_
  refine awp_if (decide (r < 10)) rfl (by first | (simp only [aeval_tmp, look, ↓reduceIte, Nat.reduceEqDiff]; try rfl) | rfl) ?_ ?_
  rotate_left
  · intro h
    have h := of_decide_eq_false h
    obtain rfl : r = 10 := by omega
    refine awp_exit ?_
    simp -implicitDefEqProofs (disch := (try simp only [sl]); try omega) only [sm,Qj,Qi,Qq,QC,bd,look,aput,QB,Qf,ty,↓reduceIte,Nat.reduceEqDiff,Nat.reduceAdd,Nat.reduceSub,Nat.reduceMul,Int.reduceLT,Int.reduceLE,Int.reduceNeg,Int.reduceToNat,reduceCtorEq,Nat.reduceBEq,Nat.reduceBNe,Qk,Qe,Value.cells,am,mm,keep]
    obtain ⟨i1, i2, i3, i4⟩ := hI
    have m1 := got_lt i2
    have m2 := got_lt i3
    have m3 := got_lt i4
    repeat first | refine Qo ?_ | refine Qn ?_
    refine Qp (by kernel_rfl) ?_
    simp -implicitDefEqProofs (disch := (try simp only [sl]); try omega) only [sm,QJ,Qj,Qi,Qq,QC,bd,look,aput,QB,Qf,ty,↓reduceIte,Nat.reduceEqDiff,Nat.reduceAdd,Nat.reduceSub,Nat.reduceMul,Int.reduceLT,Int.reduceLE,Int.reduceNeg,Int.reduceToNat,reduceCtorEq,Nat.reduceBEq,Nat.reduceBNe,Qk,Qe,Value.cells,am,mm,keep]
    repeat first | refine Qo ?_ | refine Qn ?_
    refine Qp (by kernel_rfl) ?_
    simp -implicitDefEqProofs (disch := (try simp only [sl]); try omega) only [sm,QJ,Qj,Qi,Qq,QC,bd,look,aput,QB,Qf,ty,↓reduceIte,Nat.reduceEqDiff,Nat.reduceAdd,Nat.reduceSub,Nat.reduceMul,Int.reduceLT,Int.reduceLE,Int.reduceNeg,Int.reduceToNat,reduceCtorEq,Nat.reduceBEq,Nat.reduceBNe,Qk,Qe,Value.cells,am,mm,keep]
    repeat first | refine Qo ?_ | refine Qn ?_
    refine awp_for (fun i : Nat => [(55, I64 i), (12, .pointer (some ⟨H3.length, 0, none⟩)), (8, .pointer (some ⟨p + 1, 0, none⟩)), (7, .pointer (some ⟨p, 0, none⟩)), (6, .pointer (some ⟨H.length + 2, 0, none⟩))])
      (fun i => H3 ++ [.own ((fillL (byteAt (roundsR f 10) f) (zb 64) i).map U8)]) (fun i => i ≤ 64) (fun i => 64 - i) 0 (by omega) (by repeat first | exact Forgets.nil | refine Forgets.cons (by first | (simp only [look, ↓reduceIte, Nat.reduceEqDiff]; done) | (simp only [look, ↓reduceIte, Nat.reduceEqDiff]; rfl) | simp [look]) ?_) rfl ?_
    intro i hi
    have hbl : (fillL (byteAt (roundsR f 10) f) (zb 64) i).length = 64 := fillL_length _ _ _
    have c3 := AH.cells_own i3
    have c4 := AH.cells_own i4
    repeat first | refine Qo ?_ | refine Qn ?_
    refine Qp (by kernel_rfl) ?_
    simp -implicitDefEqProofs (disch := (try simp only [sl]); try omega) only [sm,QJ,Qj,Qi,Qq,QC,bd,look,aput,QB,Qf,QI,abin,anil,ty,↓reduceIte,Nat.reduceEqDiff,Nat.reduceAdd,Nat.reduceSub,Nat.reduceMul,Int.reduceLT,Int.reduceLE,Int.reduceNeg,Int.reduceToNat,reduceCtorEq,Nat.reduceBEq,Nat.reduceBNe,Qk,Qe,Value.cells,am,mm,keep]
    repeat first | refine Qo ?_ | refine Qn ?_
    refine awp_if (decide (i < 64)) rfl (by first | (simp only [aeval_tmp, look, ↓reduceIte, Nat.reduceEqDiff]; try rfl) | rfl) ?_ ?_
    rotate_left
    · intro h
      have h := of_decide_eq_false h
      obtain rfl : i = 64 := by omega
      refine awp_exit ?_
      simp -implicitDefEqProofs (disch := (try simp only [sl]); try omega) only [sm,Qj,Qi,Qq,QC,bd,look,aput,QB,Qf,ty,↓reduceIte,Nat.reduceEqDiff,Nat.reduceAdd,Nat.reduceSub,Nat.reduceMul,Int.reduceLT,Int.reduceLE,Int.reduceNeg,Int.reduceToNat,reduceCtorEq,Nat.reduceBEq,Nat.reduceBNe,Qk,Qe,Value.cells,am,mm,keep]
      rw [show fillL (byteAt (roundsR f 10) f) (zb 64) 64 = outB f from fillL_all _ _ 64 (by rw [zb, List.length_replicate])] at hbl ⊢
      have hzl : (zb 64).length = 64 := by rw [zb, List.length_replicate]
      generalize outB f = bs at *
      generalize zb 64 = zs at *
      repeat first | refine Qo ?_ | refine Qn ?_
      refine Qp (by kernel_rfl) ?_
      simp -implicitDefEqProofs (disch := (try simp only [sl]); try omega) only [sm,QJ,Qj,Qi,Qq,QC,Qz,bd,QF,look,aput,Qm,QB,Qf,QA,ty,↓reduceIte,Nat.reduceEqDiff,Nat.reduceAdd,Nat.reduceSub,Nat.reduceMul,Int.reduceLT,Int.reduceLE,Int.reduceNeg,Int.reduceToNat,reduceCtorEq,Nat.reduceBEq,Nat.reduceBNe,Qk,Qe,Value.cells,am,mm,keep, i2]
      first | refine awp_ret ?_ | skip
      show ∃ v, aresults Try.prog Try.f43 _ _ = some v ∧ _
      rw [aresults_1 (r := .cell 6 84) (by kernel_rfl)]
      simp -implicitDefEqProofs (disch := (try simp only [sl]); try omega) only [aresult, Option.some.injEq, exists_eq_left', sm,Qj,Qi,Qq,QC,Qz,bd,QF,look,aput,QB,Qf,QA,ty,↓reduceIte,Nat.reduceEqDiff,Nat.reduceAdd,Nat.reduceSub,Nat.reduceMul,Int.reduceLT,Int.reduceLE,Int.reduceNeg,Int.reduceToNat,reduceCtorEq,Nat.reduceBEq,Nat.reduceBNe,Qk,Qe,Value.cells,am,mm,keep]
      exact (by repeat first | assumption | exact Ext.refl _ | exact Ext.pre (by assumption) | exact Ext.pre (Ext.pre (by assumption)) | exact Ext.pre (Ext.pre (Ext.pre (by assumption))) | exact Ext.pre (Ext.pre (Ext.pre (Ext.pre (by assumption)))) | apply Ext.pushed | refine Ext.both ?_ _ _ | refine Ext.set ?_ _ (by omega))
    intro h
    have h := of_decide_eq_true h
    refine awp_skip ?_
    simp -implicitDefEqProofs (disch := (try simp only [sl]); try omega) only [sm,Qj,Qi,Qq,QC,bd,look,aput,QB,Qf,ty,↓reduceIte,Nat.reduceEqDiff,Nat.reduceAdd,Nat.reduceSub,Nat.reduceMul,Int.reduceLT,Int.reduceLE,Int.reduceNeg,Int.reduceToNat,reduceCtorEq,Nat.reduceBEq,Nat.reduceBNe,Qk,Qe,Value.cells,am,mm,keep]
    repeat first | refine Qo ?_ | refine Qn ?_
    refine Qp (by kernel_rfl) ?_
    simp -implicitDefEqProofs (disch := (try simp only [sl]); try omega) only [sm,QJ,Qj,Qi,Qq,QC,bd,look,aput,QB,Qf,ty,↓reduceIte,Nat.reduceEqDiff,Nat.reduceAdd,Nat.reduceSub,Nat.reduceMul,Int.reduceLT,Int.reduceLE,Int.reduceNeg,Int.reduceToNat,reduceCtorEq,Nat.reduceBEq,Nat.reduceBNe,Qk,Qe,Value.cells,am,mm,keep, c3, c4]
    repeat first | refine Qo ?_ | refine Qn ?_
    refine awp_region_drawC [(0, []), (1, []), (2, []), (3, []), (4, []), (5, []), (6, []), (7, []), (8, []), (9, []), (10, []), (11, []), (12, []), (13, []), (14, []), (15, []), (16, [])] mixed (by kernel_rfl) ?_
    simp -implicitDefEqProofs (disch := (try simp only [sl]); try omega) only [sm,aSel,Qu,Qv,Qw,Qx,Qy,Qj,Qi,Qq,QC,Qz,bd,QF,look,aput,Qm,QH,QB,Qf,Qg,QI,abin,anil,Qb,QA,ty,↓reduceIte,Nat.reduceEqDiff,Nat.reduceAdd,Nat.reduceSub,Nat.reduceMul,Int.reduceLT,Int.reduceLE,Int.reduceNeg,Int.reduceToNat,reduceCtorEq,Nat.reduceBEq,Nat.reduceBNe,Qk,Qe,Value.cells,am,mm,keep, c3, c4]
    repeat first | refine Qo ?_ | refine Qn ?_
    refine Qp (by kernel_rfl) ?_
    simp -implicitDefEqProofs (disch := (try simp only [sl]); try omega) only [sm,QJ,Qj,Qi,Qq,QC,bd,look,aput,QB,Qf,QI,abin,anil,ty,↓reduceIte,Nat.reduceEqDiff,Nat.reduceAdd,Nat.reduceSub,Nat.reduceMul,Int.reduceLT,Int.reduceLE,Int.reduceNeg,Int.reduceToNat,reduceCtorEq,Nat.reduceBEq,Nat.reduceBNe,Qk,Qe,Value.cells,am,mm,keep]
    exact ⟨i + 1, by omega, (by repeat first | exact Forgets.nil | refine Forgets.cons (by first | (simp only [look, ↓reduceIte, Nat.reduceEqDiff]; done) | (simp only [look, ↓reduceIte, Nat.reduceEqDiff]; rfl) | simp [look]) ?_), rfl, by omega⟩
  intro h
  have h := of_decide_eq_true h
  refine awp_skip ?_
  simp -implicitDefEqProofs (disch := (try simp only [sl]); try omega) only [sm,Qj,Qi,Qq,QC,bd,look,aput,QB,Qf,ty,↓reduceIte,Nat.reduceEqDiff,Nat.reduceAdd,Nat.reduceSub,Nat.reduceMul,Int.reduceLT,Int.reduceLE,Int.reduceNeg,Int.reduceToNat,reduceCtorEq,Nat.reduceBEq,Nat.reduceBNe,Qk,Qe,Value.cells,am,mm,keep]
  repeat first | refine Qo ?_ | refine Qn ?_
  refine Qp (by kernel_rfl) ?_
  simp -implicitDefEqProofs (disch := (try simp only [sl]); try omega) only [sm,QJ,Qj,Qi,Qq,QC,bd,look,aput,QB,Qf,ty,↓reduceIte,Nat.reduceEqDiff,Nat.reduceAdd,Nat.reduceSub,Nat.reduceMul,Int.reduceLT,Int.reduceLE,Int.reduceNeg,Int.reduceToNat,reduceCtorEq,Nat.reduceBEq,Nat.reduceBNe,Qk,Qe,Value.cells,am,mm,keep]
  repeat first | refine Qo ?_ | refine Qn ?_
  refine awp_for (fun i : Nat × AH => [(22, I64 i.1), (20, I64 r), (9, .func (.func 54) #[] #[.pointer (some ⟨p + 1, 0, none⟩)]), (8, .pointer (some ⟨p + 1, 0, none⟩)), (7, .pointer (some ⟨p, 0, none⟩)), (6, .pointer (some ⟨H.length + 2, 0, none⟩))])
    (fun i => i.2) (fun i => i.1 ≤ 4 ∧ BkI H (H.length + 2) p (p + 1) f (colR (roundsR f r) i.1) i.2) (fun i => 4 - i.1) (0, H3) ⟨by omega, hI⟩ (by repeat first | exact Forgets.nil | refine Forgets.cons (by first | (simp only [look, ↓reduceIte, Nat.reduceEqDiff]; done) | (simp only [look, ↓reduceIte, Nat.reduceEqDiff]; rfl) | simp [look]) ?_) rfl ?_
  rintro ⟨i, H4⟩ ⟨hi, hI4⟩
  simp only [] at hi hI4 ⊢
  repeat first | refine Qo ?_ | refine Qn ?_
  refine Qp (by kernel_rfl) ?_
  simp -implicitDefEqProofs (disch := (try simp only [sl]); try omega) only [sm,QJ,Qj,Qi,Qq,QC,bd,look,aput,QB,Qf,QI,abin,anil,ty,↓reduceIte,Nat.reduceEqDiff,Nat.reduceAdd,Nat.reduceSub,Nat.reduceMul,Int.reduceLT,Int.reduceLE,Int.reduceNeg,Int.reduceToNat,reduceCtorEq,Nat.reduceBEq,Nat.reduceBNe,Qk,Qe,Value.cells,am,mm,keep]
  repeat first | refine Qo ?_ | refine Qn ?_
  refine awp_if (decide (i < 4)) rfl (by first | (simp only [aeval_tmp, look, ↓reduceIte, Nat.reduceEqDiff]; try rfl) | rfl) ?_ ?_
  rotate_left
  · intro h
    have h := of_decide_eq_false h
    obtain rfl : i = 4 := by omega
    refine awp_exit ?_
    simp -implicitDefEqProofs (disch := (try simp only [sl]); try omega) only [sm,Qj,Qi,Qq,QC,bd,look,aput,QB,Qf,ty,↓reduceIte,Nat.reduceEqDiff,Nat.reduceAdd,Nat.reduceSub,Nat.reduceMul,Int.reduceLT,Int.reduceLE,Int.reduceNeg,Int.reduceToNat,reduceCtorEq,Nat.reduceBEq,Nat.reduceBNe,Qk,Qe,Value.cells,am,mm,keep]
    repeat first | refine Qo ?_ | refine Qn ?_
    refine Qp (by kernel_rfl) ?_
    simp -implicitDefEqProofs (disch := (try simp only [sl]); try omega) only [sm,QJ,Qj,Qi,Qq,QC,bd,look,aput,QB,Qf,ty,↓reduceIte,Nat.reduceEqDiff,Nat.reduceAdd,Nat.reduceSub,Nat.reduceMul,Int.reduceLT,Int.reduceLE,Int.reduceNeg,Int.reduceToNat,reduceCtorEq,Nat.reduceBEq,Nat.reduceBNe,Qk,Qe,Value.cells,am,mm,keep]
    repeat first | refine Qo ?_ | refine Qn ?_
    refine awp_for (fun i : Nat × AH => [(35, I64 i.1), (20, I64 r), (9, .func (.func 54) #[] #[.pointer (some ⟨p + 1, 0, none⟩)]), (8, .pointer (some ⟨p + 1, 0, none⟩)), (7, .pointer (some ⟨p, 0, none⟩)), (6, .pointer (some ⟨H.length + 2, 0, none⟩))])
      (fun i => i.2) (fun i => i.1 ≤ 4 ∧ BkI H (H.length + 2) p (p + 1) f (diaR (colR (roundsR f r) 4) i.1) i.2) (fun i => 4 - i.1) (0, H4) ⟨by omega, hI4⟩ (by repeat first | exact Forgets.nil | refine Forgets.cons (by first | (simp only [look, ↓reduceIte, Nat.reduceEqDiff]; done) | (simp only [look, ↓reduceIte, Nat.reduceEqDiff]; rfl) | simp [look]) ?_) rfl ?_
    rintro ⟨i, H5⟩ ⟨hi, hI5⟩
    simp only [] at hi hI5 ⊢
    repeat first | refine Qo ?_ | refine Qn ?_
    refine Qp (by kernel_rfl) ?_
    simp -implicitDefEqProofs (disch := (try simp only [sl]); try omega) only [sm,QJ,Qj,Qi,Qq,QC,bd,look,aput,QB,Qf,QI,abin,anil,ty,↓reduceIte,Nat.reduceEqDiff,Nat.reduceAdd,Nat.reduceSub,Nat.reduceMul,Int.reduceLT,Int.reduceLE,Int.reduceNeg,Int.reduceToNat,reduceCtorEq,Nat.reduceBEq,Nat.reduceBNe,Qk,Qe,Value.cells,am,mm,keep]
    repeat first | refine Qo ?_ | refine Qn ?_
    refine awp_if (decide (i < 4)) rfl (by first | (simp only [aeval_tmp, look, ↓reduceIte, Nat.reduceEqDiff]; try rfl) | rfl) ?_ ?_
    rotate_left
    · intro h
      have h := of_decide_eq_false h
      obtain rfl : i = 4 := by omega
      refine awp_exit ?_
      simp -implicitDefEqProofs (disch := (try simp only [sl]); try omega) only [sm,Qj,Qi,Qq,QC,bd,look,aput,QB,Qf,ty,↓reduceIte,Nat.reduceEqDiff,Nat.reduceAdd,Nat.reduceSub,Nat.reduceMul,Int.reduceLT,Int.reduceLE,Int.reduceNeg,Int.reduceToNat,reduceCtorEq,Nat.reduceBEq,Nat.reduceBNe,Qk,Qe,Value.cells,am,mm,keep]
      repeat first | refine Qo ?_ | refine Qn ?_
      refine Qp (by kernel_rfl) ?_
      simp -implicitDefEqProofs (disch := (try simp only [sl]); try omega) only [sm,QJ,Qj,Qi,Qq,QC,bd,look,aput,QB,Qf,QI,abin,anil,ty,↓reduceIte,Nat.reduceEqDiff,Nat.reduceAdd,Nat.reduceSub,Nat.reduceMul,Int.reduceLT,Int.reduceLE,Int.reduceNeg,Int.reduceToNat,reduceCtorEq,Nat.reduceBEq,Nat.reduceBNe,Qk,Qe,Value.cells,am,mm,keep]
      exact ⟨(r + 1, H5), ⟨by simp only []; omega, hI5⟩, (by repeat first | exact Forgets.nil | refine Forgets.cons (by first | (simp only [look, ↓reduceIte, Nat.reduceEqDiff]; done) | (simp only [look, ↓reduceIte, Nat.reduceEqDiff]; rfl) | simp [look]) ?_), rfl, by simp only []; omega⟩
    intro h
    have h := of_decide_eq_true h
    refine awp_skip ?_
    simp -implicitDefEqProofs (disch := (try simp only [sl]); try omega) only [sm,Qj,Qi,Qq,QC,bd,look,aput,QB,Qf,ty,↓reduceIte,Nat.reduceEqDiff,Nat.reduceAdd,Nat.reduceSub,Nat.reduceMul,Int.reduceLT,Int.reduceLE,Int.reduceNeg,Int.reduceToNat,reduceCtorEq,Nat.reduceBEq,Nat.reduceBNe,Qk,Qe,Value.cells,am,mm,keep]
    repeat first | refine Qo ?_ | refine Qn ?_
    refine Qp (by kernel_rfl) ?_
    simp -implicitDefEqProofs (disch := (try simp only [sl]); try omega) only [sm,QJ,Qj,Qi,Qq,QC,bd,look,aput,QB,Qf,ty,↓reduceIte,Nat.reduceEqDiff,Nat.reduceAdd,Nat.reduceSub,Nat.reduceMul,Int.reduceLT,Int.reduceLE,Int.reduceNeg,Int.reduceToNat,reduceCtorEq,Nat.reduceBEq,Nat.reduceBNe,Qk,Qe,Value.cells,am,mm,keep]
    repeat first | refine Qo ?_ | refine Qn ?_
    refine Qp (by kernel_rfl) ?_
    simp -implicitDefEqProofs (disch := (try simp only [sl]); try omega) only [sm,QJ,Qj,Qi,Qq,QC,bd,look,aput,Qm,QB,Qf,QI,abin,anil,ty,↓reduceIte,Nat.reduceEqDiff,Nat.reduceAdd,Nat.reduceSub,Nat.reduceMul,Int.reduceLT,Int.reduceLE,Int.reduceNeg,Int.reduceToNat,reduceCtorEq,Nat.reduceBEq,Nat.reduceBNe,Qk,Qe,Value.cells,am,mm,keep]
    refine ACalls.mono (turn_calls (diaR (colR (roundsR f r) 4) i) i (4 + (i + 1) % 4) (8 + (i + 2) % 4) (12 + (i + 3) % 4) (p + 1) H5 (by rw [diaR_length, colR_length, hwl, hfl]) (by omega) (by omega) (by omega) (by omega) hI5.2.2.2) ?_
    rintro _ H6 ⟨rfl, hE⟩
    try simp -implicitDefEqProofs (disch := (try simp only [sl]); try omega) only [sm,QJ,aSel,Qu,Qv,Qw,Qx,Qy,Qj,Qi,Qq,QC,Qz,bd,QF,look,aput,Qm,QH,QB,Qf,Qg,QI,abin,anil,QG,Qb,Qc,Qt,QA,Qs,Qr,aslice3,asl3,loN,hiN,Qh,Qa,Qd,Ql,QD,QE,acap,ty,↓reduceIte,Nat.reduceEqDiff,Nat.reduceAdd,Nat.reduceSub,Nat.reduceMul,Int.reduceLT,Int.reduceLE,Int.reduceNeg,Int.reduceToNat,reduceCtorEq,Nat.reduceBEq,Nat.reduceBNe,Qk,Qe,Value.cells,am,mm,keep]
    repeat first | refine Qo ?_ | refine Qn ?_
    refine Qp (by kernel_rfl) ?_
    simp -implicitDefEqProofs (disch := (try simp only [sl]); try omega) only [sm,QJ,Qj,Qi,Qq,QC,bd,look,aput,QB,Qf,QI,abin,anil,ty,↓reduceIte,Nat.reduceEqDiff,Nat.reduceAdd,Nat.reduceSub,Nat.reduceMul,Int.reduceLT,Int.reduceLE,Int.reduceNeg,Int.reduceToNat,reduceCtorEq,Nat.reduceBEq,Nat.reduceBNe,Qk,Qe,Value.cells,am,mm,keep]
    exact ⟨(i + 1, H6), ⟨by simp only []; omega, hI5.turn (by omega) (by omega) (by omega) hE⟩, (by repeat first | exact Forgets.nil | refine Forgets.cons (by first | (simp only [look, ↓reduceIte, Nat.reduceEqDiff]; done) | (simp only [look, ↓reduceIte, Nat.reduceEqDiff]; rfl) | simp [look]) ?_), rfl, by simp only []; omega⟩
  intro h
  have h := of_decide_eq_true h
  refine awp_skip ?_
  simp -implicitDefEqProofs (disch := (try simp only [sl]); try omega) only [sm,Qj,Qi,Qq,QC,bd,look,aput,QB,Qf,ty,↓reduceIte,Nat.reduceEqDiff,Nat.reduceAdd,Nat.reduceSub,Nat.reduceMul,Int.reduceLT,Int.reduceLE,Int.reduceNeg,Int.reduceToNat,reduceCtorEq,Nat.reduceBEq,Nat.reduceBNe,Qk,Qe,Value.cells,am,mm,keep]
  repeat first | refine Qo ?_ | refine Qn ?_
  refine Qp (by kernel_rfl) ?_
  simp -implicitDefEqProofs (disch := (try simp only [sl]); try omega) only [sm,QJ,Qj,Qi,Qq,QC,bd,look,aput,QB,Qf,ty,↓reduceIte,Nat.reduceEqDiff,Nat.reduceAdd,Nat.reduceSub,Nat.reduceMul,Int.reduceLT,Int.reduceLE,Int.reduceNeg,Int.reduceToNat,reduceCtorEq,Nat.reduceBEq,Nat.reduceBNe,Qk,Qe,Value.cells,am,mm,keep]
  repeat first | refine Qo ?_ | refine Qn ?_
  refine Qp (by kernel_rfl) ?_
  simp -implicitDefEqProofs (disch := (try simp only [sl]); try omega) only [sm,QJ,Qj,Qi,Qq,QC,bd,look,aput,Qm,QB,Qf,QI,abin,anil,ty,↓reduceIte,Nat.reduceEqDiff,Nat.reduceAdd,Nat.reduceSub,Nat.reduceMul,Int.reduceLT,Int.reduceLE,Int.reduceNeg,Int.reduceToNat,reduceCtorEq,Nat.reduceBEq,Nat.reduceBNe,Qk,Qe,Value.cells,am,mm,keep]
  refine ACalls.mono (turn_calls (colR (roundsR f r) i) i (4 + i) (8 + i) (12 + i) (p + 1) H4 (by rw [colR_length, hwl, hfl]) (by omega) (by omega) (by omega) (by omega) hI4.2.2.2) ?_
  rintro _ H6 ⟨rfl, hE⟩
  try simp -implicitDefEqProofs (disch := (try simp only [sl]); try omega) only [sm,QJ,aSel,Qu,Qv,Qw,Qx,Qy,Qj,Qi,Qq,QC,Qz,bd,QF,look,aput,Qm,QH,QB,Qf,Qg,QI,abin,anil,QG,Qb,Qc,Qt,QA,Qs,Qr,aslice3,asl3,loN,hiN,Qh,Qa,Qd,Ql,QD,QE,acap,ty,↓reduceIte,Nat.reduceEqDiff,Nat.reduceAdd,Nat.reduceSub,Nat.reduceMul,Int.reduceLT,Int.reduceLE,Int.reduceNeg,Int.reduceToNat,reduceCtorEq,Nat.reduceBEq,Nat.reduceBNe,Qk,Qe,Value.cells,am,mm,keep]
  repeat first | refine Qo ?_ | refine Qn ?_
  refine Qp (by kernel_rfl) ?_
  simp -implicitDefEqProofs (disch := (try simp only [sl]); try omega) only [sm,QJ,Qj,Qi,Qq,QC,bd,look,aput,QB,Qf,QI,abin,anil,ty,↓reduceIte,Nat.reduceEqDiff,Nat.reduceAdd,Nat.reduceSub,Nat.reduceMul,Int.reduceLT,Int.reduceLE,Int.reduceNeg,Int.reduceToNat,reduceCtorEq,Nat.reduceBEq,Nat.reduceBNe,Qk,Qe,Value.cells,am,mm,keep]
  exact ⟨(i + 1, H6), ⟨by simp only []; omega, hI4.turn (by omega) (by omega) (by omega) hE⟩, (by repeat first | exact Forgets.nil | refine Forgets.cons (by first | (simp only [look, ↓reduceIte, Nat.reduceEqDiff]; done) | (simp only [look, ↓reduceIte, Nat.reduceEqDiff]; rfl) | simp [look]) ?_), rfl, by simp only []; omega⟩
end Go.Proofs.Ytpiaohajbbdpdaa
