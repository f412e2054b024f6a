/- cipher.Turn, cipher.Stream, cipher.Nonce. -/
import Derived.Test.YtpiaohajbbdpdaaCbk
import Derived.Test.YtpiaohajbbdpdaaC6
namespace Go.Proofs.Ytpiaohajbbdpdaa
open Go Go.RowKit
set_option linter.unusedSimpArgs false
set_option linter.unusedVariables false
set_option maxRecDepth 4000
def xorAt (ks ns : List UInt8) (c : UInt32) (bs : List UInt8) (i : Nat) : UInt8 := bs.getD i 0 ^^^ (blockB ks ns (c + UInt32.ofNat (i / 64))).getD (i % 64) 0
def turnB (ks ns : List UInt8) (c : UInt32) (bs : List UInt8) : List UInt8 := (List.range bs.length).map (xorAt ks ns c bs)
theorem turnB_length (ks ns : List UInt8) (c : UInt32) (bs : List UInt8) : (turnB ks ns c bs).length = bs.length := by rw [turnB, List.length_map, List.length_range]
set_option maxHeartbeats 4000000 in
theorem turn_calls' (ks ns : List UInt8) (c : UInt32) (v : Value) (bs : List UInt8) (H : AH) (hk : ks.length = 32) (hn : ns.length = 12) (h : SL H v (bs.map U8)) (hl : bs.length ≤ 1048576) :
    ACalls Try.prog 28 #[.agg (ks.map U8).toArray, .agg (ns.map U8).toArray, U32 c, v] H fun v H' => SL H' v ((turnB ks ns c bs).map U8) ∧ Ext H H' := by
  refine acalls_of_body Try.func28 rfl Try.ntmps28 (by simp) ?_
  simp only [argsT, Nat.reduceAdd]
  repeat first | refine Qo ?_ | refine Qn ?_
  refine Qp (by kernel_rfl) ?_
  simp -implicitDefEqProofs (disch := (try simp only [sl]); try omega) only [sm,QJ,Qj,Qi,Qq,QC,bd,look,aput,QB,Qf,ty,↓reduceIte,Nat.reduceEqDiff,Nat.reduceAdd,Nat.reduceSub,Nat.reduceMul,Int.reduceLT,Int.reduceLE,Int.reduceNeg,Int.reduceToNat,reduceCtorEq,Nat.reduceBEq,Nat.reduceBNe,Qk,Qe,Value.cells,am,mm,keep, hk, hn]
  have hS := h.mono (Ext.pushed (Ext.push H [ABlk.own (ks.map U8)]) [ABlk.own (ns.map U8)])
  by_cases h0 : bs = []
  · subst h0
    have ha := app_none (P := Try.prog) (t := 26) (tx := 26) (bytes := 1) (s := .slice none 0 0) (by simp only [ty]) (by simp only [ty]) hS (.inl rfl)
    repeat first | refine Qo ?_ | refine Qn ?_
    refine Qp (by kernel_rfl) ?_
    simp -implicitDefEqProofs (disch := (try simp only [sl]); try omega) only [sm,QJ,Qj,Qi,Qq,QC,bd,look,aput,Qm,QB,Qf,ty,↓reduceIte,Nat.reduceEqDiff,Nat.reduceAdd,Nat.reduceSub,Nat.reduceMul,Int.reduceLT,Int.reduceLE,Int.reduceNeg,Int.reduceToNat,reduceCtorEq,Nat.reduceBEq,Nat.reduceBNe,Qk,Qe,Value.cells,am,mm,keep, ha]
    repeat first | refine Qo ?_ | refine Qn ?_
    refine Qp (by kernel_rfl) ?_
    simp -implicitDefEqProofs (disch := (try simp only [sl]); try omega) only [sm,QJ,Qj,Qi,Qq,QC,bd,look,aput,QB,Qf,ty,↓reduceIte,Nat.reduceEqDiff,Nat.reduceAdd,Nat.reduceSub,Nat.reduceMul,Int.reduceLT,Int.reduceLE,Int.reduceNeg,Int.reduceToNat,reduceCtorEq,Nat.reduceBEq,Nat.reduceBNe,Qk,Qe,Value.cells,am,mm,keep, ha]
    repeat first | refine Qo ?_ | refine Qn ?_
    refine awp_for (fun i : Unit => [(10, I64 0), (9, .slice none 0 0)]) (fun i => H ++ [.own (ks.map U8)] ++ [.own (ns.map U8)]) (fun i => True) (fun i => 0) () trivial (by repeat first | exact Forgets.nil | refine Forgets.cons (by first | (simp only [look, ↓reduceIte, Nat.reduceEqDiff]; done) | (simp only [look, ↓reduceIte, Nat.reduceEqDiff]; rfl) | simp [look]) ?_) rfl ?_
    intro i hi
    repeat first | refine Qo ?_ | refine Qn ?_
    refine Qp (by kernel_rfl) ?_
    simp -implicitDefEqProofs (disch := (try simp only [sl]); try omega) only [sm,QJ,Qj,Qi,Qq,QC,bd,look,aput,QB,Qf,QI,abin,anil,Ql,QD,QE,ty,↓reduceIte,Nat.reduceEqDiff,Nat.reduceAdd,Nat.reduceSub,Nat.reduceMul,Int.reduceLT,Int.reduceLE,Int.reduceNeg,Int.reduceToNat,reduceCtorEq,Nat.reduceBEq,Nat.reduceBNe,Qk,Qe,Value.cells,am,mm,keep]
    repeat first | refine Qo ?_ | refine Qn ?_
    refine awp_if (false) rfl (by first | (simp only [aeval_tmp, look, ↓reduceIte, Nat.reduceEqDiff]; try rfl) | rfl) ?_ ?_
    rotate_left
    · intro h
      refine awp_exit ?_
      simp -implicitDefEqProofs (disch := (try simp only [sl]); try omega) only [sm,Qj,Qi,Qq,QC,bd,look,aput,QB,Qf,ty,↓reduceIte,Nat.reduceEqDiff,Nat.reduceAdd,Nat.reduceSub,Nat.reduceMul,Int.reduceLT,Int.reduceLE,Int.reduceNeg,Int.reduceToNat,reduceCtorEq,Nat.reduceBEq,Nat.reduceBNe,Qk,Qe,Value.cells,am,mm,keep]
      repeat first | refine Qo ?_ | refine Qn ?_
      refine Qp (by kernel_rfl) ?_
      simp -implicitDefEqProofs (disch := (try simp only [sl]); try omega) only [sm,QJ,Qj,Qi,Qq,QC,bd,look,aput,QB,Qf,ty,↓reduceIte,Nat.reduceEqDiff,Nat.reduceAdd,Nat.reduceSub,Nat.reduceMul,Int.reduceLT,Int.reduceLE,Int.reduceNeg,Int.reduceToNat,reduceCtorEq,Nat.reduceBEq,Nat.reduceBNe,Qk,Qe,Value.cells,am,mm,keep]
      first | refine awp_ret ?_ | skip
      show ∃ v, aresults Try.prog Try.f28 _ _ = some v ∧ _
      rw [aresults_1 (r := .tmp 8) (by kernel_rfl)]
      simp -implicitDefEqProofs (disch := (try simp only [sl]); try omega) only [aresult, Option.some.injEq, exists_eq_left', sm,Qj,Qi,Qq,QC,Qz,bd,QF,look,aput,QB,Qf,QA,ty,↓reduceIte,Nat.reduceEqDiff,Nat.reduceAdd,Nat.reduceSub,Nat.reduceMul,Int.reduceLT,Int.reduceLE,Int.reduceNeg,Int.reduceToNat,reduceCtorEq,Nat.reduceBEq,Nat.reduceBNe,Qk,Qe,Value.cells,am,mm,keep]
      exact ⟨.inl ⟨rfl, rfl⟩, (by repeat first | assumption | exact Ext.refl _ | exact Ext.pre (by assumption) | exact Ext.pre (Ext.pre (by assumption)) | exact Ext.pre (Ext.pre (Ext.pre (by assumption))) | exact Ext.pre (Ext.pre (Ext.pre (Ext.pre (by assumption)))) | apply Ext.pushed | refine Ext.both ?_ _ _ | refine Ext.set ?_ _ (by omega))⟩
    intro h
    exact absurd h (by decide)
  have hb0 : 0 < bs.length := List.length_pos_iff.2 h0
  have ha := app_nil (P := Try.prog) (t := 26) (tx := 26) (bytes := 1) (by simp only [ty]) (by simp only [ty]) hS (all8 bs) (by rw [List.length_map]; exact hb0) (by rw [List.length_map]; omega) (by omega)
  rw [List.length_map] at ha
  repeat first | refine Qo ?_ | refine Qn ?_
  refine Qp (by kernel_rfl) ?_
  simp -implicitDefEqProofs (disch := (try simp only [sl]); try omega) only [sm,QJ,Qj,Qi,Qq,QC,bd,look,aput,Qm,QB,Qf,ty,↓reduceIte,Nat.reduceEqDiff,Nat.reduceAdd,Nat.reduceSub,Nat.reduceMul,Int.reduceLT,Int.reduceLE,Int.reduceNeg,Int.reduceToNat,reduceCtorEq,Nat.reduceBEq,Nat.reduceBNe,Qk,Qe,Value.cells,am,mm,keep, ha]
  repeat first | refine Qo ?_ | refine Qn ?_
  refine Qp (by kernel_rfl) ?_
  simp -implicitDefEqProofs (disch := (try simp only [sl]); try omega) only [sm,QJ,Qj,Qi,Qq,QC,bd,look,aput,QB,Qf,ty,↓reduceIte,Nat.reduceEqDiff,Nat.reduceAdd,Nat.reduceSub,Nat.reduceMul,Int.reduceLT,Int.reduceLE,Int.reduceNeg,Int.reduceToNat,reduceCtorEq,Nat.reduceBEq,Nat.reduceBNe,Qk,Qe,Value.cells,am,mm,keep, ha]
  have hI : Ext H (H ++ [.own (ks.map U8)] ++ [.own (ns.map U8)] ++ [.own (bs.map U8)]) := (by repeat first | assumption | exact Ext.refl _ | exact Ext.pre (by assumption) | exact Ext.pre (Ext.pre (by assumption)) | exact Ext.pre (Ext.pre (Ext.pre (by assumption))) | exact Ext.pre (Ext.pre (Ext.pre (Ext.pre (by assumption)))) | apply Ext.pushed | refine Ext.both ?_ _ _ | refine Ext.set ?_ _ (by omega))
  have hk1 : (H ++ [.own (ks.map U8)] ++ [.own (ns.map U8)] ++ [.own (bs.map U8)])[H.length]? = some (.own (ks.map U8)) := (by simp -implicitDefEqProofs (disch := (try simp only [sl]); try omega) only [sm,Qj,Qi,Qq,QC,bd,look,aput,ty,↓reduceIte,Nat.reduceEqDiff,Nat.reduceAdd,Nat.reduceSub,Nat.reduceMul,Int.reduceLT,Int.reduceLE,Int.reduceNeg,Int.reduceToNat,reduceCtorEq,Nat.reduceBEq,Nat.reduceBNe,Qk,Qe,Value.cells,am,mm,keep])
  have hn1 : (H ++ [.own (ks.map U8)] ++ [.own (ns.map U8)] ++ [.own (bs.map U8)])[H.length + 1]? = some (.own (ns.map U8)) := (by simp -implicitDefEqProofs (disch := (try simp only [sl]); try omega) only [sm,Qj,Qi,Qq,QC,bd,look,aput,ty,↓reduceIte,Nat.reduceEqDiff,Nat.reduceAdd,Nat.reduceSub,Nat.reduceMul,Int.reduceLT,Int.reduceLE,Int.reduceNeg,Int.reduceToNat,reduceCtorEq,Nat.reduceBEq,Nat.reduceBNe,Qk,Qe,Value.cells,am,mm,keep])
  have hb1 : (H ++ [.own (ks.map U8)] ++ [.own (ns.map U8)] ++ [.own (bs.map U8)])[H.length + 2]? = some (.own (bs.map U8)) := (by simp -implicitDefEqProofs (disch := (try simp only [sl]); try omega) only [sm,Qj,Qi,Qq,QC,bd,look,aput,ty,↓reduceIte,Nat.reduceEqDiff,Nat.reduceAdd,Nat.reduceSub,Nat.reduceMul,Int.reduceLT,Int.reduceLE,Int.reduceNeg,Int.reduceToNat,reduceCtorEq,Nat.reduceBEq,Nat.reduceBNe,Qk,Qe,Value.cells,am,mm,keep])
  generalize H ++ [ABlk.own (ks.map U8)] ++ [ABlk.own (ns.map U8)] ++ [ABlk.own (bs.map U8)] = H2 at *
  clear ha hS h
  repeat first | refine Qo ?_ | refine Qn ?_
  refine awp_for (fun i : Nat × AH => [(10, I64 (64 * i.1)), (9, .slice (some ⟨H.length + 2, 0, none⟩) bs.length 1), (2, U32 (c + UInt32.ofNat i.1)), (4, .pointer (some ⟨H.length, 0, none⟩)), (5, .pointer (some ⟨H.length + 1, 0, none⟩))])
    (fun i => i.2) (fun i => 64 * i.1 < bs.length + 64 ∧ Ext H i.2 ∧ i.2[H.length]? = some (.own (ks.map U8)) ∧ i.2[H.length + 1]? = some (.own (ns.map U8)) ∧ i.2[H.length + 2]? = some (.own ((fillL (xorAt ks ns c bs) bs (min (64 * i.1) bs.length)).map U8)))
    (fun i => bs.length + 64 - 64 * i.1) (0, H2) ⟨by simp only []; omega, hI, hk1, hn1, by simp only [Nat.mul_zero, Nat.zero_min]; exact hb1⟩ (by repeat first | exact Forgets.nil | refine Forgets.cons (by simp [look]) ?_) rfl ?_
  rintro ⟨j, H3⟩ ⟨hj, i1, i2, i3, i4⟩
  simp only [] at hj i1 i2 i3 i4 ⊢
  repeat first | refine Qo ?_ | refine Qn ?_
  refine Qp (by kernel_rfl) ?_
  simp -implicitDefEqProofs (disch := (try simp only [sl]); try omega) only [sm,QJ,Qj,Qi,Qq,QC,bd,look,aput,QB,Qf,QI,abin,anil,Ql,QD,QE,ty,↓reduceIte,Nat.reduceEqDiff,Nat.reduceAdd,Nat.reduceSub,Nat.reduceMul,Int.reduceLT,Int.reduceLE,Int.reduceNeg,Int.reduceToNat,reduceCtorEq,Nat.reduceBEq,Nat.reduceBNe,Qk,Qe,Value.cells,am,mm,keep]
  repeat first | refine Qo ?_ | refine Qn ?_
  refine awp_if (decide (64 * j < bs.length)) rfl (by first | (simp only [aeval_tmp, look, ↓reduceIte, Nat.reduceEqDiff]; try rfl) | rfl) ?_ ?_
  rotate_left
  · intro h
    have h := of_decide_eq_false h
    refine awp_exit ?_
    simp -implicitDefEqProofs (disch := (try simp only [sl]); try omega) only [sm,Qj,Qi,Qq,QC,bd,look,aput,QB,Qf,ty,↓reduceIte,Nat.reduceEqDiff,Nat.reduceAdd,Nat.reduceSub,Nat.reduceMul,Int.reduceLT,Int.reduceLE,Int.reduceNeg,Int.reduceToNat,reduceCtorEq,Nat.reduceBEq,Nat.reduceBNe,Qk,Qe,Value.cells,am,mm,keep]
    repeat first | refine Qo ?_ | refine Qn ?_
    refine Qp (by kernel_rfl) ?_
    simp -implicitDefEqProofs (disch := (try simp only [sl]); try omega) only [sm,QJ,Qj,Qi,Qq,QC,bd,look,aput,QB,Qf,ty,↓reduceIte,Nat.reduceEqDiff,Nat.reduceAdd,Nat.reduceSub,Nat.reduceMul,Int.reduceLT,Int.reduceLE,Int.reduceNeg,Int.reduceToNat,reduceCtorEq,Nat.reduceBEq,Nat.reduceBNe,Qk,Qe,Value.cells,am,mm,keep]
    first | refine awp_ret ?_ | skip
    show ∃ v, aresults Try.prog Try.f28 _ _ = some v ∧ _
    rw [aresults_1 (r := .tmp 8) (by kernel_rfl)]
    simp -implicitDefEqProofs (disch := (try simp only [sl]); try omega) only [aresult, Option.some.injEq, exists_eq_left', sm,Qj,Qi,Qq,QC,Qz,bd,QF,look,aput,QB,Qf,QA,ty,↓reduceIte,Nat.reduceEqDiff,Nat.reduceAdd,Nat.reduceSub,Nat.reduceMul,Int.reduceLT,Int.reduceLE,Int.reduceNeg,Int.reduceToNat,reduceCtorEq,Nat.reduceBEq,Nat.reduceBNe,Qk,Qe,Value.cells,am,mm,keep]
    rw [Nat.min_eq_right (by omega), fillL_all _ _ _ rfl] at i4
    exact ⟨SL.whole _ (AH.cells_own i4) (turnB_length _ _ _ _).symm, i1⟩
  intro h
  have h := of_decide_eq_true h
  refine awp_skip ?_
  simp -implicitDefEqProofs (disch := (try simp only [sl]); try omega) only [sm,Qj,Qi,Qq,QC,bd,look,aput,QB,Qf,ty,↓reduceIte,Nat.reduceEqDiff,Nat.reduceAdd,Nat.reduceSub,Nat.reduceMul,Int.reduceLT,Int.reduceLE,Int.reduceNeg,Int.reduceToNat,reduceCtorEq,Nat.reduceBEq,Nat.reduceBNe,Qk,Qe,Value.cells,am,mm,keep]
  have c2 := AH.cells_own i2
  have c3 := AH.cells_own i3
  have l2 := got_lt i2
  have l3 := got_lt i3
  have l4 := got_lt i4
  repeat first | refine Qo ?_ | refine Qn ?_
  refine Qp (by kernel_rfl) ?_
  simp -implicitDefEqProofs (disch := (try simp only [sl]); try omega) only [sm,QJ,Qj,Qi,Qq,QC,Qz,bd,QF,look,aput,Qm,QB,Qf,QA,ty,↓reduceIte,Nat.reduceEqDiff,Nat.reduceAdd,Nat.reduceSub,Nat.reduceMul,Int.reduceLT,Int.reduceLE,Int.reduceNeg,Int.reduceToNat,reduceCtorEq,Nat.reduceBEq,Nat.reduceBNe,Qk,Qe,Value.cells,am,mm,keep, c2, c3, hk, hn]
  refine ACalls.mono (block_calls ks ns (c + UInt32.ofNat j) H3 hk hn) ?_
  rintro _ H4 ⟨rfl, hE⟩
  have e1 : Ext H H4 := i1.trans hE
  have e2 := hE _ _ i2
  have e3 := hE _ _ i3
  have e4 := hE _ _ i4
  have m2 := got_lt e2
  have m3 := got_lt e3
  have m4 := got_lt e4
  have hbl := blockB_length ks ns (c + UInt32.ofNat j)
  rw [Nat.min_eq_left (by omega)] at e4
  try simp -implicitDefEqProofs (disch := (try simp only [sl]); try omega) only [sm,QJ,aSel,Qu,Qv,Qw,Qx,Qy,Qj,Qi,Qq,QC,Qz,bd,QF,look,aput,Qm,QH,QB,Qf,Qg,QI,abin,anil,QG,Qb,Qc,Qt,QA,Qs,Qr,aslice3,asl3,loN,hiN,Qh,Qa,Qd,Ql,QD,QE,acap,ty,↓reduceIte,Nat.reduceEqDiff,Nat.reduceAdd,Nat.reduceSub,Nat.reduceMul,Int.reduceLT,Int.reduceLE,Int.reduceNeg,Int.reduceToNat,reduceCtorEq,Nat.reduceBEq,Nat.reduceBNe,Qk,Qe,Value.cells,am,mm,keep, hbl]
  generalize hB : blockB ks ns (c + UInt32.ofNat j) = blk at *
  have f1 : Ext H (H4 ++ [.own (blk.map U8)]) := (by repeat first | assumption | exact Ext.refl _ | exact Ext.pre (by assumption) | exact Ext.pre (Ext.pre (by assumption)) | exact Ext.pre (Ext.pre (Ext.pre (by assumption))) | exact Ext.pre (Ext.pre (Ext.pre (Ext.pre (by assumption)))) | apply Ext.pushed | refine Ext.both ?_ _ _ | refine Ext.set ?_ _ (by omega))
  have f2 := Ext.push H4 [.own (blk.map U8)] _ _ e2
  have f3 := Ext.push H4 [.own (blk.map U8)] _ _ e3
  have f4 := Ext.push H4 [.own (blk.map U8)] _ _ e4
  have f5 : (H4 ++ [ABlk.own (blk.map U8)])[H4.length]? = some (.own (blk.map U8)) := (by simp -implicitDefEqProofs (disch := (try simp only [sl]); try omega) only [sm,Qj,Qi,Qq,QC,bd,look,aput,ty,↓reduceIte,Nat.reduceEqDiff,Nat.reduceAdd,Nat.reduceSub,Nat.reduceMul,Int.reduceLT,Int.reduceLE,Int.reduceNeg,Int.reduceToNat,reduceCtorEq,Nat.reduceBEq,Nat.reduceBNe,Qk,Qe,Value.cells,am,mm,keep])
  repeat first | refine Qo ?_ | refine Qn ?_
  refine Qp (by kernel_rfl) ?_
  simp -implicitDefEqProofs (disch := (try simp only [sl]); try omega) only [sm,QJ,Qj,Qi,Qq,QC,bd,look,aput,QB,Qf,QI,abin,anil,Qr,aslice3,asl3,loN,hiN,Ql,QD,QE,ty,↓reduceIte,Nat.reduceEqDiff,Nat.reduceAdd,Nat.reduceSub,Nat.reduceMul,Int.reduceLT,Int.reduceLE,Int.reduceNeg,Int.reduceToNat,reduceCtorEq,Nat.reduceBEq,Nat.reduceBNe,Qk,Qe,Value.cells,am,mm,keep]
  generalize H4.length = B at *
  generalize H4 ++ [ABlk.own (blk.map U8)] = H5 at *
  clear hE e1 e2 e3 e4
  repeat first | refine Qo ?_ | refine Qn ?_
  refine awp_for (fun i : Nat × AH => [(35, I64 i.1), (34, I64 (min (64 * j + 64) bs.length - 64 * j)), (11, .pointer (some ⟨B, 0, none⟩)), (10, I64 (64 * j)), (9, .slice (some ⟨H.length + 2, 0, none⟩) bs.length 1), (2, U32 (c + UInt32.ofNat j)), (4, .pointer (some ⟨H.length, 0, none⟩)), (5, .pointer (some ⟨H.length + 1, 0, none⟩))])
    (fun i => i.2) (fun i => i.1 ≤ min (64 * j + 64) bs.length - 64 * j ∧ Ext H i.2 ∧ i.2[H.length]? = some (.own (ks.map U8)) ∧ i.2[H.length + 1]? = some (.own (ns.map U8)) ∧ i.2[H.length + 2]? = some (.own ((fillL (xorAt ks ns c bs) bs (64 * j + i.1)).map U8)) ∧ i.2[B]? = some (.own (blk.map U8)))
    (fun i => 64 - i.1) (0, H5) ⟨by simp only []; omega, f1, f2, f3, f4, f5⟩ (by repeat first | exact Forgets.nil | refine Forgets.cons (by first | (simp only [look, ↓reduceIte, Nat.reduceEqDiff]; done) | (simp only [look, ↓reduceIte, Nat.reduceEqDiff]; rfl) | simp [look]) ?_) rfl ?_
  rintro ⟨i, H6⟩ ⟨hi, g1, g2, g3, g4, g5⟩
  simp only [] at hi g1 g2 g3 g4 g5 ⊢
  repeat first | refine Qo ?_ | refine Qn ?_
  refine Qp (by kernel_rfl) ?_
  simp -implicitDefEqProofs (disch := (try simp only [sl]); try omega) only [sm,QJ,Qj,Qi,Qq,QC,bd,look,aput,QB,Qf,QI,abin,anil,ty,↓reduceIte,Nat.reduceEqDiff,Nat.reduceAdd,Nat.reduceSub,Nat.reduceMul,Int.reduceLT,Int.reduceLE,Int.reduceNeg,Int.reduceToNat,reduceCtorEq,Nat.reduceBEq,Nat.reduceBNe,Qk,Qe,Value.cells,am,mm,keep]
  repeat first | refine Qo ?_ | refine Qn ?_
  refine awp_if (decide (i < min (64 * j + 64) bs.length - 64 * j)) rfl (by first | (simp only [aeval_tmp, look, ↓reduceIte, Nat.reduceEqDiff]; try rfl) | rfl) ?_ ?_
  rotate_left
  · intro h
    have h := of_decide_eq_false h
    refine awp_exit ?_
    simp -implicitDefEqProofs (disch := (try simp only [sl]); try omega) only [sm,Qj,Qi,Qq,QC,bd,look,aput,QB,Qf,ty,↓reduceIte,Nat.reduceEqDiff,Nat.reduceAdd,Nat.reduceSub,Nat.reduceMul,Int.reduceLT,Int.reduceLE,Int.reduceNeg,Int.reduceToNat,reduceCtorEq,Nat.reduceBEq,Nat.reduceBNe,Qk,Qe,Value.cells,am,mm,keep]
    repeat first | refine Qo ?_ | refine Qn ?_
    refine Qp (by kernel_rfl) ?_
    simp -implicitDefEqProofs (disch := (try simp only [sl]); try omega) only [sm,QJ,Qj,Qi,Qq,QC,bd,look,aput,QB,Qf,QI,abin,anil,ty,↓reduceIte,Nat.reduceEqDiff,Nat.reduceAdd,Nat.reduceSub,Nat.reduceMul,Int.reduceLT,Int.reduceLE,Int.reduceNeg,Int.reduceToNat,reduceCtorEq,Nat.reduceBEq,Nat.reduceBNe,Qk,Qe,Value.cells,am,mm,keep]
    repeat first | refine Qo ?_ | refine Qn ?_
    refine Qp (by kernel_rfl) ?_
    simp -implicitDefEqProofs (disch := (try simp only [sl]); try omega) only [sm,QJ,Qj,Qi,Qq,QC,bd,look,aput,QB,Qf,QI,abin,anil,ty,↓reduceIte,Nat.reduceEqDiff,Nat.reduceAdd,Nat.reduceSub,Nat.reduceMul,Int.reduceLT,Int.reduceLE,Int.reduceNeg,Int.reduceToNat,reduceCtorEq,Nat.reduceBEq,Nat.reduceBNe,Qk,Qe,Value.cells,am,mm,keep]
    have ei : 64 * j + i = min (64 * (j + 1)) bs.length := by omega
    rw [ei] at g4
    refine ⟨(j + 1, H6), ⟨by simp only []; omega, g1, g2, g3, g4⟩, ?_, rfl, by simp only []; omega⟩
    have ec : c + UInt32.ofNat j + 1 = c + UInt32.ofNat (j + 1) := by rw [UInt32.ofNat_add, UInt32.add_assoc]; rfl
    rw [ec]
    exact (by repeat first | exact Forgets.nil | refine Forgets.cons (by first | (simp only [look, ↓reduceIte, Nat.reduceEqDiff]; done) | (simp only [look, ↓reduceIte, Nat.reduceEqDiff]; rfl) | simp [look]) ?_)
  intro h
  have h := of_decide_eq_true h
  refine awp_skip ?_
  simp -implicitDefEqProofs (disch := (try simp only [sl]); try omega) only [sm,Qj,Qi,Qq,QC,bd,look,aput,QB,Qf,ty,↓reduceIte,Nat.reduceEqDiff,Nat.reduceAdd,Nat.reduceSub,Nat.reduceMul,Int.reduceLT,Int.reduceLE,Int.reduceNeg,Int.reduceToNat,reduceCtorEq,Nat.reduceBEq,Nat.reduceBNe,Qk,Qe,Value.cells,am,mm,keep]
  have d4 := AH.cells_own g4
  have d5 := AH.cells_own g5
  have n4 := got_lt g4
  have n5 := got_lt g5
  have hfl : (fillL (xorAt ks ns c bs) bs (64 * j + i)).length = bs.length := fillL_length _ _ _
  repeat first | refine Qo ?_ | refine Qn ?_
  refine Qp (by kernel_rfl) ?_
  simp -implicitDefEqProofs (disch := (try simp only [sl]); try omega) only [sm,QJ,Qj,Qi,Qq,QC,bd,look,aput,QB,Qf,ty,↓reduceIte,Nat.reduceEqDiff,Nat.reduceAdd,Nat.reduceSub,Nat.reduceMul,Int.reduceLT,Int.reduceLE,Int.reduceNeg,Int.reduceToNat,reduceCtorEq,Nat.reduceBEq,Nat.reduceBNe,Qk,Qe,Value.cells,am,mm,keep, d4, d5, g4, hfl, hbl]
  repeat first | refine Qo ?_ | refine Qn ?_
  refine awp_region_drawC [(0, []), (1, []), (2, []), (3, []), (4, []), (5, []), (6, []), (7, []), (8, []), (9, []), (10, []), (11, [])] mixed (by kernel_rfl) ?_
  simp -implicitDefEqProofs (disch := (try simp only [sl]); try omega) only [sm,aSel,Qu,Qv,Qw,Qx,Qy,Qj,Qi,Qq,QC,Qz,bd,QF,look,aput,Qm,QB,Qf,QI,abin,anil,Qb,QA,ty,↓reduceIte,Nat.reduceEqDiff,Nat.reduceAdd,Nat.reduceSub,Nat.reduceMul,Int.reduceLT,Int.reduceLE,Int.reduceNeg,Int.reduceToNat,reduceCtorEq,Nat.reduceBEq,Nat.reduceBNe,Qk,Qe,Value.cells,am,mm,keep, d4, d5, g4, hfl, hbl]
  repeat first | refine Qo ?_ | refine Qn ?_
  refine Qp (by kernel_rfl) ?_
  simp -implicitDefEqProofs (disch := (try simp only [sl]); try omega) only [sm,QJ,Qj,Qi,Qq,QC,bd,look,aput,QB,Qf,QI,abin,anil,ty,↓reduceIte,Nat.reduceEqDiff,Nat.reduceAdd,Nat.reduceSub,Nat.reduceMul,Int.reduceLT,Int.reduceLE,Int.reduceNeg,Int.reduceToNat,reduceCtorEq,Nat.reduceBEq,Nat.reduceBNe,Qk,Qe,Value.cells,am,mm,keep]
  have hx : xorAt ks ns c bs (64 * j + i) = bs.getD (64 * j + i) 0 ^^^ blk.getD i 0 := by
    rw [xorAt, show (64 * j + i) / 64 = j by omega, show (64 * j + i) % 64 = i by omega, hB]
  rw [fillL_getD _ _ _ _ (by omega), ← hx, ← fillL.eq_2]
  exact ⟨(i + 1, _), ⟨by simp only []; omega, g1.set _ (by omega), (by simp -implicitDefEqProofs (disch := (try simp only [sl]); try omega) only [sm,Qj,Qi,Qq,QC,bd,look,aput,ty,↓reduceIte,Nat.reduceEqDiff,Nat.reduceAdd,Nat.reduceSub,Nat.reduceMul,Int.reduceLT,Int.reduceLE,Int.reduceNeg,Int.reduceToNat,reduceCtorEq,Nat.reduceBEq,Nat.reduceBNe,Qk,Qe,Value.cells,am,mm,keep, g2]), (by simp -implicitDefEqProofs (disch := (try simp only [sl]); try omega) only [sm,Qj,Qi,Qq,QC,bd,look,aput,ty,↓reduceIte,Nat.reduceEqDiff,Nat.reduceAdd,Nat.reduceSub,Nat.reduceMul,Int.reduceLT,Int.reduceLE,Int.reduceNeg,Int.reduceToNat,reduceCtorEq,Nat.reduceBEq,Nat.reduceBNe,Qk,Qe,Value.cells,am,mm,keep, g3]), (by rw [← Nat.add_assoc, List.getElem?_set_self n4]), (by simp -implicitDefEqProofs (disch := (try simp only [sl]); try omega) only [sm,Qj,Qi,Qq,QC,bd,look,aput,ty,↓reduceIte,Nat.reduceEqDiff,Nat.reduceAdd,Nat.reduceSub,Nat.reduceMul,Int.reduceLT,Int.reduceLE,Int.reduceNeg,Int.reduceToNat,reduceCtorEq,Nat.reduceBEq,Nat.reduceBNe,Qk,Qe,Value.cells,am,mm,keep, g5])⟩, (by repeat first | exact Forgets.nil | refine Forgets.cons (by first | (simp only [look, ↓reduceIte, Nat.reduceEqDiff]; done) | (simp only [look, ↓reduceIte, Nat.reduceEqDiff]; rfl) | simp [look]) ?_), rfl, by simp only []; omega⟩
def streamB (ks ns : List UInt8) (c : UInt32) (n : Nat) : List UInt8 := turnB ks ns c (zb n)
theorem streamB_length (ks ns : List UInt8) (c : UInt32) (n : Nat) : (streamB ks ns c n).length = n := by rw [streamB, turnB_length, zb, List.length_replicate]
def nonceB (e : UInt32) (b : UInt64) : List UInt8 := (List.range 12).map fun i => if i < 4 then (e >>> UInt32.ofNat (8 * i)).toUInt8 else (b >>> UInt64.ofNat (8 * (i - 4))).toUInt8
set_option maxHeartbeats 4000000 in
theorem nonce_calls (e : UInt32) (b : UInt64) (H : AH) :
    ACalls Try.prog 29 #[U32 e, U64 b] H fun v H' => v = .agg ((nonceB e b).map U8).toArray ∧ Ext H H' := by
  refine acalls_of_body Try.func29 rfl Try.ntmps29 (by simp) ?_
  simp only [argsT, Nat.reduceAdd]
  repeat first | refine Qo ?_ | refine Qn ?_
  refine Qp (by kernel_rfl) ?_
  simp -implicitDefEqProofs (disch := (try simp only [sl]); try omega) only [sm,QJ,Qj,Qi,Qq,QC,bd,look,aput,QB,Qf,ty,↓reduceIte,Nat.reduceEqDiff,Nat.reduceAdd,Nat.reduceSub,Nat.reduceMul,Int.reduceLT,Int.reduceLE,Int.reduceNeg,Int.reduceToNat,reduceCtorEq,Nat.reduceBEq,Nat.reduceBNe,Qk,Qe,Value.cells,am,mm,keep, QO]
  repeat first | refine Qo ?_ | refine Qn ?_
  refine Qp (by kernel_rfl) ?_
  simp -implicitDefEqProofs (disch := (try simp only [sl]); try omega) only [sm,QJ,Qj,Qi,Qq,QC,bd,look,aput,QB,Qf,ty,↓reduceIte,Nat.reduceEqDiff,Nat.reduceAdd,Nat.reduceSub,Nat.reduceMul,Int.reduceLT,Int.reduceLE,Int.reduceNeg,Int.reduceToNat,reduceCtorEq,Nat.reduceBEq,Nat.reduceBNe,Qk,Qe,Value.cells,am,mm,keep, QO]
  repeat first | refine Qo ?_ | refine Qn ?_
  refine Qp (by kernel_rfl) ?_
  simp -implicitDefEqProofs (disch := (try simp only [sl]); try omega) only [sm,QJ,Qj,Qi,Qq,QC,bd,look,aput,QB,Qf,ty,↓reduceIte,Nat.reduceEqDiff,Nat.reduceAdd,Nat.reduceSub,Nat.reduceMul,Int.reduceLT,Int.reduceLE,Int.reduceNeg,Int.reduceToNat,reduceCtorEq,Nat.reduceBEq,Nat.reduceBNe,Qk,Qe,Value.cells,am,mm,keep, QO]
  generalize hz : zb 12 = z
  have hzl : z.length = 12 := by rw [← hz, zb, List.length_replicate]
  repeat first | refine Qo ?_ | refine Qn ?_
  refine awp_for (fun i : Nat => [(7, I64 i), (5, .pointer (some ⟨H.length + 1, 0, none⟩)), (4, .pointer (some ⟨H.length, 0, none⟩)), (0, U32 e), (1, U64 b)])
    (fun i => H ++ [.own (z.map U8)] ++ [.own ((fillL (fun i => if i < 4 then (e >>> UInt32.ofNat (8 * i)).toUInt8 else (b >>> UInt64.ofNat (8 * (i - 4))).toUInt8) z i).map U8)]) (fun i => i ≤ 12) (fun i => 12 - i) 0 (by omega) (by repeat first | exact Forgets.nil | refine Forgets.cons (by first | (simp only [look, ↓reduceIte, Nat.reduceEqDiff]; done) | (simp only [look, ↓reduceIte, Nat.reduceEqDiff]; rfl) | simp [look]) ?_) rfl ?_
  intro i hi
  have hfl := fillL_length (fun i => if i < 4 then (e >>> UInt32.ofNat (8 * i)).toUInt8 else (b >>> UInt64.ofNat (8 * (i - 4))).toUInt8) z i
  repeat first | refine Qo ?_ | refine Qn ?_
  refine Qp (by kernel_rfl) ?_
  simp -implicitDefEqProofs (disch := (try simp only [sl]); try omega) only [sm,QJ,Qj,Qi,Qq,QC,bd,look,aput,QB,Qf,QI,abin,anil,ty,↓reduceIte,Nat.reduceEqDiff,Nat.reduceAdd,Nat.reduceSub,Nat.reduceMul,Int.reduceLT,Int.reduceLE,Int.reduceNeg,Int.reduceToNat,reduceCtorEq,Nat.reduceBEq,Nat.reduceBNe,Qk,Qe,Value.cells,am,mm,keep]
  repeat first | refine Qo ?_ | refine Qn ?_
  refine awp_if (decide (i < 12)) rfl (by first | (simp only [aeval_tmp, look, ↓reduceIte, Nat.reduceEqDiff]; try rfl) | rfl) ?_ ?_
  rotate_left
  · intro h
    have h := of_decide_eq_false h
    obtain rfl : i = 12 := by omega
    refine awp_exit ?_
    simp -implicitDefEqProofs (disch := (try simp only [sl]); try omega) only [sm,Qj,Qi,Qq,QC,bd,look,aput,QB,Qf,ty,↓reduceIte,Nat.reduceEqDiff,Nat.reduceAdd,Nat.reduceSub,Nat.reduceMul,Int.reduceLT,Int.reduceLE,Int.reduceNeg,Int.reduceToNat,reduceCtorEq,Nat.reduceBEq,Nat.reduceBNe,Qk,Qe,Value.cells,am,mm,keep]
    rw [show fillL (fun i => if i < 4 then (e >>> UInt32.ofNat (8 * i)).toUInt8 else (b >>> UInt64.ofNat (8 * (i - 4))).toUInt8) z 12 = nonceB e b from fillL_all _ _ 12 hzl] at hfl ⊢
    generalize nonceB e b = bs at *
    repeat first | refine Qo ?_ | refine Qn ?_
    refine Qp (by kernel_rfl) ?_
    simp -implicitDefEqProofs (disch := (try simp only [sl]); try omega) only [sm,QJ,Qj,Qi,Qq,QC,Qz,bd,QF,look,aput,Qm,QB,Qf,QA,ty,↓reduceIte,Nat.reduceEqDiff,Nat.reduceAdd,Nat.reduceSub,Nat.reduceMul,Int.reduceLT,Int.reduceLE,Int.reduceNeg,Int.reduceToNat,reduceCtorEq,Nat.reduceBEq,Nat.reduceBNe,Qk,Qe,Value.cells,am,mm,keep]
    first | refine awp_ret ?_ | skip
    show ∃ v, aresults Try.prog Try.f29 _ _ = some v ∧ _
    rw [aresults_1 (r := .cell 4 69) (by kernel_rfl)]
    simp -implicitDefEqProofs (disch := (try simp only [sl]); try omega) only [aresult, Option.some.injEq, exists_eq_left', sm,Qj,Qi,Qq,QC,Qz,bd,QF,look,aput,QB,Qf,QA,ty,↓reduceIte,Nat.reduceEqDiff,Nat.reduceAdd,Nat.reduceSub,Nat.reduceMul,Int.reduceLT,Int.reduceLE,Int.reduceNeg,Int.reduceToNat,reduceCtorEq,Nat.reduceBEq,Nat.reduceBNe,Qk,Qe,Value.cells,am,mm,keep]
    exact (by repeat first | assumption | exact Ext.refl _ | exact Ext.pre (by assumption) | exact Ext.pre (Ext.pre (by assumption)) | exact Ext.pre (Ext.pre (Ext.pre (by assumption))) | exact Ext.pre (Ext.pre (Ext.pre (Ext.pre (by assumption)))) | apply Ext.pushed | refine Ext.both ?_ _ _ | refine Ext.set ?_ _ (by omega))
  intro h
  have h := of_decide_eq_true h
  refine awp_skip ?_
  simp -implicitDefEqProofs (disch := (try simp only [sl]); try omega) only [sm,Qj,Qi,Qq,QC,bd,look,aput,QB,Qf,ty,↓reduceIte,Nat.reduceEqDiff,Nat.reduceAdd,Nat.reduceSub,Nat.reduceMul,Int.reduceLT,Int.reduceLE,Int.reduceNeg,Int.reduceToNat,reduceCtorEq,Nat.reduceBEq,Nat.reduceBNe,Qk,Qe,Value.cells,am,mm,keep]
  repeat first | refine Qo ?_ | refine Qn ?_
  refine Qp (by kernel_rfl) ?_
  simp -implicitDefEqProofs (disch := (try simp only [sl]); try omega) only [sm,QJ,Qj,Qi,Qq,QC,bd,look,aput,QB,Qf,ty,↓reduceIte,Nat.reduceEqDiff,Nat.reduceAdd,Nat.reduceSub,Nat.reduceMul,Int.reduceLT,Int.reduceLE,Int.reduceNeg,Int.reduceToNat,reduceCtorEq,Nat.reduceBEq,Nat.reduceBNe,Qk,Qe,Value.cells,am,mm,keep]
  repeat first | refine Qo ?_ | refine Qn ?_
  refine Qp (by kernel_rfl) ?_
  simp -implicitDefEqProofs (disch := (try simp only [sl]); try omega) only [sm,QJ,Qj,Qi,Qq,QC,bd,look,aput,QB,Qf,QI,abin,anil,ty,↓reduceIte,Nat.reduceEqDiff,Nat.reduceAdd,Nat.reduceSub,Nat.reduceMul,Int.reduceLT,Int.reduceLE,Int.reduceNeg,Int.reduceToNat,reduceCtorEq,Nat.reduceBEq,Nat.reduceBNe,Qk,Qe,Value.cells,am,mm,keep]
  by_cases h4 : i < 4
  · refine awp_if true rfl (by simp [look, aeval_tmp, h4]) (fun _ => ?_) (fun h => absurd h (by decide))
    repeat first | refine Qo ?_ | refine Qn ?_
    refine Qp (by kernel_rfl) ?_
    simp -implicitDefEqProofs (disch := (try simp only [sl]); try omega) only [sm,QJ,Qj,Qi,Qq,QC,Qz,bd,QF,look,aput,Qm,QH,QB,Qf,Qg,QI,abin,anil,Qb,ty,↓reduceIte,Nat.reduceEqDiff,Nat.reduceAdd,Nat.reduceSub,Nat.reduceMul,Int.reduceLT,Int.reduceLE,Int.reduceNeg,Int.reduceToNat,reduceCtorEq,Nat.reduceBEq,Nat.reduceBNe,Qk,Qe,Value.cells,am,mm,keep]
    repeat first | refine Qo ?_ | refine Qn ?_
    refine Qp (by kernel_rfl) ?_
    simp -implicitDefEqProofs (disch := (try simp only [sl]); try omega) only [sm,QJ,Qj,Qi,Qq,QC,bd,look,aput,QB,Qf,QI,abin,anil,ty,↓reduceIte,Nat.reduceEqDiff,Nat.reduceAdd,Nat.reduceSub,Nat.reduceMul,Int.reduceLT,Int.reduceLE,Int.reduceNeg,Int.reduceToNat,reduceCtorEq,Nat.reduceBEq,Nat.reduceBNe,Qk,Qe,Value.cells,am,mm,keep]
    have hf : (e >>> UInt32.ofNat (8 * i)).toUInt8 = (fun i => if i < 4 then (e >>> UInt32.ofNat (8 * i)).toUInt8 else (b >>> UInt64.ofNat (8 * (i - 4))).toUInt8) i := by simp only [h4, if_true]
    rw [hf]
    exact ⟨i + 1, by omega, (by repeat first | exact Forgets.nil | refine Forgets.cons (by first | (simp only [look, ↓reduceIte, Nat.reduceEqDiff]; done) | (simp only [look, ↓reduceIte, Nat.reduceEqDiff]; rfl) | simp [look]) ?_), rfl, by omega⟩
  · refine awp_if false rfl (by simp [look, aeval_tmp, h4]) (fun h => absurd h (by decide)) (fun _ => ?_)
    repeat first | refine Qo ?_ | refine Qn ?_
    refine Qp (by kernel_rfl) ?_
    simp -implicitDefEqProofs (disch := (try simp only [sl]); try omega) only [sm,QJ,Qj,Qi,Qq,QC,Qz,bd,QF,look,aput,Qm,QH,QB,Qf,Qg,QI,abin,anil,Qb,ty,↓reduceIte,Nat.reduceEqDiff,Nat.reduceAdd,Nat.reduceSub,Nat.reduceMul,Int.reduceLT,Int.reduceLE,Int.reduceNeg,Int.reduceToNat,reduceCtorEq,Nat.reduceBEq,Nat.reduceBNe,Qk,Qe,Value.cells,am,mm,keep]
    repeat first | refine Qo ?_ | refine Qn ?_
    refine Qp (by kernel_rfl) ?_
    simp -implicitDefEqProofs (disch := (try simp only [sl]); try omega) only [sm,QJ,Qj,Qi,Qq,QC,bd,look,aput,QB,Qf,QI,abin,anil,ty,↓reduceIte,Nat.reduceEqDiff,Nat.reduceAdd,Nat.reduceSub,Nat.reduceMul,Int.reduceLT,Int.reduceLE,Int.reduceNeg,Int.reduceToNat,reduceCtorEq,Nat.reduceBEq,Nat.reduceBNe,Qk,Qe,Value.cells,am,mm,keep]
    have hf : (b >>> UInt64.ofNat (8 * (i - 4))).toUInt8 = (fun i => if i < 4 then (e >>> UInt32.ofNat (8 * i)).toUInt8 else (b >>> UInt64.ofNat (8 * (i - 4))).toUInt8) i := by simp only [h4, if_false]
    rw [hf]
    exact ⟨i + 1, by omega, (by repeat first | exact Forgets.nil | refine Forgets.cons (by first | (simp only [look, ↓reduceIte, Nat.reduceEqDiff]; done) | (simp only [look, ↓reduceIte, Nat.reduceEqDiff]; rfl) | simp [look]) ?_), rfl, by omega⟩
end Go.Proofs.Ytpiaohajbbdpdaa
