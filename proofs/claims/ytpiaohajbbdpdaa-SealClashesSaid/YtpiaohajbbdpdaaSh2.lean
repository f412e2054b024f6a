/- sha: a block turns a state. -/
import Derived.Test.YtpiaohajbbdpdaaSh1
namespace Go.Proofs.Ytpiaohajbbdpdaa
open Go Go.RowKit
set_option linter.unusedSimpArgs false
set_option linter.unusedVariables false
set_option maxRecDepth 4000
def rndP (k w : UInt32) (x : List UInt32) : UInt32 := x.getD 7 0 + (turnW (x.getD 4 0) 6 ^^^ turnW (x.getD 4 0) 11 ^^^ turnW (x.getD 4 0) 25) + (x.getD 4 0 &&& x.getD 5 0 ^^^ ~~~ x.getD 4 0 &&& x.getD 6 0) + k + w
def rndQ (x : List UInt32) : UInt32 := (turnW (x.getD 0 0) 2 ^^^ turnW (x.getD 0 0) 13 ^^^ turnW (x.getD 0 0) 22) + (x.getD 0 0 &&& x.getD 1 0 ^^^ x.getD 0 0 &&& x.getD 2 0 ^^^ x.getD 1 0 &&& x.getD 2 0)
def rndL (k w : UInt32) (x : List UInt32) : List UInt32 := [rndP k w x + rndQ x, x.getD 0 0, x.getD 1 0, x.getD 2 0, x.getD 3 0 + rndP k w x, x.getD 4 0, x.getD 5 0, x.getD 6 0]
def rndsL (ks ws x : List UInt32) : Nat → List UInt32
  | 0 => x
  | t + 1 => rndL (ks.getD t 0) (ws.getD t 0) (rndsL ks ws x t)
theorem rndsL_length (ks ws x : List UInt32) (hx : x.length = 8) : ∀ t, (rndsL ks ws x t).length = 8
  | 0 => hx
  | _ + 1 => rfl
def addL (h x : List UInt32) : List UInt32 := (List.range 8).map fun i => h.getD i 0 + x.getD i 0
theorem addL_length (h x : List UInt32) : (addL h x).length = 8 := by rw [addL, List.length_map, List.length_range]
def blockW (h : List UInt32) (bs : List UInt8) : List UInt32 := addL h (rndsL constL (schedA bs (zw 64) 64) h 64)
theorem ones_xor (x : UInt32) : 4294967295 ^^^ x = ~~~x := by
  rw [← UInt32.toBitVec_inj]
  simp only [UInt32.toBitVec_xor, UInt32.toBitVec_not]
  show BitVec.ofNat 32 4294967295 ^^^ x.toBitVec = ~~~x.toBitVec
  rw [show BitVec.ofNat 32 4294967295 = BitVec.allOnes 32 from rfl, BitVec.allOnes_xor]
theorem anot32 (x : UInt32) : bits BinOp.xor IntKind.u32 (if IntKind.u32.signed = true then -1 else IntKind.u32.max) (x.toNat : Int) = ((~~~x).toNat : Int) := by
  have h : (if IntKind.u32.signed = true then -1 else IntKind.u32.max) = (((4294967295 : UInt32).toNat : Nat) : Int) := by decide
  rw [h, wxor32, ones_xor]
theorem eight (l : List UInt32) (h : l.length = 8) : ∃ a b c d e f g i, l = [a, b, c, d, e, f, g, i] := by
  match l, h with
  | [a, b, c, d, e, f, g, i], _ => exact ⟨a, b, c, d, e, f, g, i, rfl⟩
set_option maxHeartbeats 4000000 in
theorem sblock_calls (hs : List UInt32) (v : Value) (bs : List UInt8) (H : AH) (hh : hs.length = 8) (h : SL H v (bs.map U8)) (hl : bs.length = 64) :
    ACalls Try.prog 62 #[.agg (hs.map U32).toArray, v] H fun v H' => v = .agg ((blockW hs bs).map U32).toArray ∧ Ext H H' := by
  have hB : blockW hs bs = addL hs (rndsL constL (schedA bs (zw 64) 64) hs 64) := rfl
  have hsl : (schedA bs (zw 64) 64).length = 64 := by rw [schedA_length, zw_length]
  refine acalls_of_body Try.func62 rfl Try.ntmps62 (by simp) ?_
  simp only [argsT, Nat.reduceAdd]
  iterate 2 ((repeat first | refine Qo ?_ | refine Qn ?_); (first | refine Qp (by kernel_rfl) ?_); simp -implicitDefEqProofs (disch := (try simp only [sl]); try omega) only [sm,QJ,Qj,Qi,Qq,QC,bd,look,aput,Qm,QB,Qf,ty,↓reduceIte,Nat.reduceEqDiff,Nat.reduceAdd,Nat.reduceSub,Nat.reduceMul,Int.reduceLT,Int.reduceLE,Int.reduceNeg,Int.reduceToNat,reduceCtorEq,Nat.reduceBEq,Nat.reduceBNe,Qk,Qe,Value.cells,am,mm,keep, hh])
  generalize hH1 : H ++ [ABlk.own (hs.map U32)] ++ [ABlk.own (List.replicate 8 (Value.int .u32 0))] = H1
  have h0 : Ext H H1 := by rw [← hH1]; exact (by repeat first | assumption | exact Ext.refl _ | exact Ext.pre (by assumption) | exact Ext.pre (Ext.pre (by assumption)) | exact Ext.pre (Ext.pre (Ext.pre (by assumption))) | exact Ext.pre (Ext.pre (Ext.pre (Ext.pre (by assumption)))) | apply Ext.pushed | refine Ext.both ?_ _ _ | refine Ext.set ?_ _ (by omega))
  have a0 : H1[H.length]? = some (.own (hs.map U32)) := by rw [← hH1]; exact (by simp -implicitDefEqProofs (disch := (try simp only [sl]); try omega) only [sm,Qj,Qi,Qq,QC,bd,look,aput,ty,↓reduceIte,Nat.reduceEqDiff,Nat.reduceAdd,Nat.reduceSub,Nat.reduceMul,Int.reduceLT,Int.reduceLE,Int.reduceNeg,Int.reduceToNat,reduceCtorEq,Nat.reduceBEq,Nat.reduceBNe,Qk,Qe,Value.cells,am,mm,keep])
  have a1 : H1[H.length + 1]? = some (.own (List.replicate 8 (Value.int .u32 0))) := by rw [← hH1]; exact (by simp -implicitDefEqProofs (disch := (try simp only [sl]); try omega) only [sm,Qj,Qi,Qq,QC,bd,look,aput,ty,↓reduceIte,Nat.reduceEqDiff,Nat.reduceAdd,Nat.reduceSub,Nat.reduceMul,Int.reduceLT,Int.reduceLE,Int.reduceNeg,Int.reduceToNat,reduceCtorEq,Nat.reduceBEq,Nat.reduceBNe,Qk,Qe,Value.cells,am,mm,keep])
  clear hH1
  refine ACalls.mono (spread_calls v bs H1 (h.mono h0) hl) ?_
  rintro _ H2 ⟨rfl, e2⟩
  try simp -implicitDefEqProofs (disch := (try simp only [sl]); try omega) only [sm,QJ,Qj,Qi,Qq,QC,bd,look,aput,Qm,QB,Qf,ty,↓reduceIte,Nat.reduceEqDiff,Nat.reduceAdd,Nat.reduceSub,Nat.reduceMul,Int.reduceLT,Int.reduceLE,Int.reduceNeg,Int.reduceToNat,reduceCtorEq,Nat.reduceBEq,Nat.reduceBNe,Qk,Qe,Value.cells,am,mm,keep, hh]
  refine ACalls.mono (constants_calls H2) ?_
  rintro _ H3 ⟨rfl, e3⟩
  rw [hB]
  clear hB
  have hcl : constL.length = 64 := rfl
  have e13 := e2.trans e3
  have b0 := e13 _ _ a0
  have b1 := e13 _ _ a1
  have c0 := AH.cells_own b0
  have l1 := got_lt b1
  generalize schedA bs (zw 64) 64 = ws at *
  generalize constL = ks at *
  try simp -implicitDefEqProofs (disch := (try simp only [sl]); try omega) only [sm,QJ,Qj,Qi,Qq,QC,bd,look,aput,Qm,QB,Qf,ty,↓reduceIte,Nat.reduceEqDiff,Nat.reduceAdd,Nat.reduceSub,Nat.reduceMul,Int.reduceLT,Int.reduceLE,Int.reduceNeg,Int.reduceToNat,reduceCtorEq,Nat.reduceBEq,Nat.reduceBNe,Qk,Qe,Value.cells,am,mm,keep, hh, hsl, hcl]
  iterate 2 ((repeat first | refine Qo ?_ | refine Qn ?_); (first | refine Qp (by kernel_rfl) ?_); simp -implicitDefEqProofs (disch := (try simp only [sl]); try omega) only [sm,QJ,Qj,Qi,Qq,QC,Qz,bd,QF,look,aput,Qm,QB,Qf,QA,ty,↓reduceIte,Nat.reduceEqDiff,Nat.reduceAdd,Nat.reduceSub,Nat.reduceMul,Int.reduceLT,Int.reduceLE,Int.reduceNeg,Int.reduceToNat,reduceCtorEq,Nat.reduceBEq,Nat.reduceBNe,Qk,Qe,Value.cells,am,mm,keep, hh, c0])
  have h03 : Ext H H3 := h0.trans e13
  generalize hH4 : H3 ++ [ABlk.own (ws.map U32)] ++ [ABlk.own (ks.map U32)] = H4
  have d0 : H4[H.length]? = some (.own (hs.map U32)) := by rw [← hH4]; exact (by simp -implicitDefEqProofs (disch := (try simp only [sl]); try omega) only [sm,Qj,Qi,Qq,QC,bd,look,aput,ty,↓reduceIte,Nat.reduceEqDiff,Nat.reduceAdd,Nat.reduceSub,Nat.reduceMul,Int.reduceLT,Int.reduceLE,Int.reduceNeg,Int.reduceToNat,reduceCtorEq,Nat.reduceBEq,Nat.reduceBNe,Qk,Qe,Value.cells,am,mm,keep, b0])
  have d1 : H4[H.length + 1]? = some (.own (List.replicate 8 (Value.int .u32 0))) := by rw [← hH4]; exact (by simp -implicitDefEqProofs (disch := (try simp only [sl]); try omega) only [sm,Qj,Qi,Qq,QC,bd,look,aput,ty,↓reduceIte,Nat.reduceEqDiff,Nat.reduceAdd,Nat.reduceSub,Nat.reduceMul,Int.reduceLT,Int.reduceLE,Int.reduceNeg,Int.reduceToNat,reduceCtorEq,Nat.reduceBEq,Nat.reduceBNe,Qk,Qe,Value.cells,am,mm,keep, b1])
  have d5 : H4[H3.length]? = some (.own (ws.map U32)) := by rw [← hH4]; exact (by simp -implicitDefEqProofs (disch := (try simp only [sl]); try omega) only [sm,Qj,Qi,Qq,QC,bd,look,aput,ty,↓reduceIte,Nat.reduceEqDiff,Nat.reduceAdd,Nat.reduceSub,Nat.reduceMul,Int.reduceLT,Int.reduceLE,Int.reduceNeg,Int.reduceToNat,reduceCtorEq,Nat.reduceBEq,Nat.reduceBNe,Qk,Qe,Value.cells,am,mm,keep])
  have d6 : H4[H3.length + 1]? = some (.own (ks.map U32)) := by rw [← hH4]; exact (by simp -implicitDefEqProofs (disch := (try simp only [sl]); try omega) only [sm,Qj,Qi,Qq,QC,bd,look,aput,ty,↓reduceIte,Nat.reduceEqDiff,Nat.reduceAdd,Nat.reduceSub,Nat.reduceMul,Int.reduceLT,Int.reduceLE,Int.reduceNeg,Int.reduceToNat,reduceCtorEq,Nat.reduceBEq,Nat.reduceBNe,Qk,Qe,Value.cells,am,mm,keep])
  have hl4 : H4.length = H3.length + 2 := by rw [← hH4]; simp
  have h04 : Ext H H4 := by rw [← hH4]; exact (by repeat first | assumption | exact Ext.refl _ | exact Ext.pre (by assumption) | exact Ext.pre (Ext.pre (by assumption)) | exact Ext.pre (Ext.pre (Ext.pre (by assumption))) | exact Ext.pre (Ext.pre (Ext.pre (Ext.pre (by assumption)))) | apply Ext.pushed | refine Ext.both ?_ _ _ | refine Ext.set ?_ _ (by omega))
  clear hH4
  rw [← hl4]
  repeat first | refine Qo ?_ | refine Qn ?_
  refine awp_forK [2, 4, 5, 6, 7] (fun t : Nat => [(18, I64 t)]) (fun t : Nat => H4 ++ [.own ((rndsL ks ws hs t).map U32)]) (fun t : Nat => t ≤ 64) (fun t : Nat => 64 - t) (0) (by omega) (by repeat first | exact Forgets.nil | refine Forgets.cons (by first | (simp only [look, ↓reduceIte, Nat.reduceEqDiff]; done) | (simp only [look, ↓reduceIte, Nat.reduceEqDiff]; rfl) | simp [look]) ?_) rfl ?_
  intro t ht
  have hyl := rndsL_length ks ws hs hh t
  have hnx : rndsL ks ws hs (t + 1) = rndL (ks.getD t 0) (ws.getD t 0) (rndsL ks ws hs t) := rfl
  have f0 := AH.cells_own d0
  have f5 := AH.cells_own d5
  have f6 := AH.cells_own d6
  have g0 := got_lt d0
  have g1 := got_lt d1
  try simp -implicitDefEqProofs (disch := (try simp only [sl]); try omega) only [sm,QJ,Qj,Qi,Qq,QC,bd,look,aput,QB,Qf,ty,↓reduceIte,Nat.reduceEqDiff,Nat.reduceAdd,Nat.reduceSub,Nat.reduceMul,Int.reduceLT,Int.reduceLE,Int.reduceNeg,Int.reduceToNat,reduceCtorEq,Nat.reduceBEq,Nat.reduceBNe,Qk,Qe,Value.cells,am,mm,keep, hh]
  iterate 1 ((repeat first | refine Qo ?_ | refine Qn ?_); (first | refine Qp (by kernel_rfl) ?_); simp -implicitDefEqProofs (disch := (try simp only [sl]); try omega) only [sm,QJ,Qj,Qi,Qq,QC,bd,look,aput,QB,Qf,QI,abin,anil,ty,↓reduceIte,Nat.reduceEqDiff,Nat.reduceAdd,Nat.reduceSub,Nat.reduceMul,Int.reduceLT,Int.reduceLE,Int.reduceNeg,Int.reduceToNat,reduceCtorEq,Nat.reduceBEq,Nat.reduceBNe,Qk,Qe,Value.cells,am,mm,keep, hh])
  repeat first | refine Qo ?_ | refine Qn ?_
  refine awp_if _ rfl (by simp only [aeval_tmp, look, ↓reduceIte, Nat.reduceEqDiff]; exact rfl) ?_ ?_
  · intro hlt
    try simp only [ge_iff_le, gt_iff_lt, decide_eq_true_eq, decide_eq_false_iff_not, Nat.not_lt, Int.not_lt, Nat.not_le, Int.not_le, Bool.and_eq_true, Bool.or_eq_true, Bool.or_eq_false_iff, bne_iff_ne, ne_eq, beq_iff_eq, bne_eq_false_iff_eq, beq_eq_false_iff_ne, Bool.not_eq_true, Bool.not_eq_false, Bool.not_eq_eq_eq_not, Bool.not_true, Bool.not_false, Nat.not_le, Int.ofNat_lt, Int.ofNat_le, Int.natCast_inj] at hlt
    obtain ⟨x0, x1, x2, x3, x4, x5, x6, x7, hy⟩ := eight _ hyl
    rw [hy] at hnx ⊢
    simp only [List.map_cons, List.map_nil]
    iterate 4 ((repeat first | refine Qo ?_ | refine Qn ?_); (first | refine awp_skip ?_ | refine Qp (by kernel_rfl) ?_ | refine awp_region_drawC (id := 6) [(0, []), (1, []), (2, []), (3, []), (4, []), (5, [])] mixed (by kernel_rfl) ?_ | refine awp_region_drawC (id := 7) [(0, []), (1, []), (2, []), (4, []), (7, []), (11, []), (12, []), (13, []), (14, []), (15, []), (16, []), (17, []), (18, []), (19, []), (20, []), (22, []), (23, []), (24, []), (26, []), (27, []), (28, []), (3, [1, 13, 18, 24, 28]), (5, [1, 13, 18, 24, 28]), (6, []), (8, [1, 13, 18, 24, 28]), (9, []), (10, []), (21, []), (25, []), (29, []), (30, [])] mixed (by kernel_rfl) ?_); simp -implicitDefEqProofs (disch := (try simp only [sl]); try omega) only [sm,QJ,aSel,Qu,Qv,Qw,Qx,Qy,Qj,Qi,Qq,QC,Qz,bd,QF,look,aput,Qm,QB,Qf,QI,abin,anil,QG,Qb,QA,ty,↓reduceIte,Nat.reduceEqDiff,Nat.reduceAdd,Nat.reduceSub,Nat.reduceMul,Int.reduceLT,Int.reduceLE,Int.reduceNeg,Int.reduceToNat,reduceCtorEq,Nat.reduceBEq,Nat.reduceBNe,Qk,Qe,Value.cells,am,mm,keep, anot32, f0, f5, f6, hsl, hcl])
    refine ACalls.mono (sturn_calls x4 6 _ (by omega) (by omega)) ?_
    rintro _ _ ⟨rfl, hHH⟩
    rw [hHH]
    clear hHH
    simp -implicitDefEqProofs (disch := (try simp only [sl]); try omega) only [sm,aSel,Qu,Qv,Qw,Qx,Qy,Qj,Qi,Qq,QC,Qz,bd,QF,look,aput,Qm,QB,Qf,QI,abin,anil,QG,Qb,QA,ty,↓reduceIte,Nat.reduceEqDiff,Nat.reduceAdd,Nat.reduceSub,Nat.reduceMul,Int.reduceLT,Int.reduceLE,Int.reduceNeg,Int.reduceToNat,reduceCtorEq,Nat.reduceBEq,Nat.reduceBNe,Qk,Qe,Value.cells,am,mm,keep, anot32, f0, f5, f6, hsl, hcl]
    refine ACalls.mono (sturn_calls x4 11 _ (by omega) (by omega)) ?_
    rintro _ _ ⟨rfl, hHH⟩
    rw [hHH]
    clear hHH
    simp -implicitDefEqProofs (disch := (try simp only [sl]); try omega) only [sm,aSel,Qu,Qv,Qw,Qx,Qy,Qj,Qi,Qq,QC,Qz,bd,QF,look,aput,Qm,QB,Qf,QI,abin,anil,QG,Qb,QA,ty,↓reduceIte,Nat.reduceEqDiff,Nat.reduceAdd,Nat.reduceSub,Nat.reduceMul,Int.reduceLT,Int.reduceLE,Int.reduceNeg,Int.reduceToNat,reduceCtorEq,Nat.reduceBEq,Nat.reduceBNe,Qk,Qe,Value.cells,am,mm,keep, anot32, f0, f5, f6, hsl, hcl]
    refine ACalls.mono (sturn_calls x4 25 _ (by omega) (by omega)) ?_
    rintro _ _ ⟨rfl, hHH⟩
    rw [hHH]
    clear hHH
    simp -implicitDefEqProofs (disch := (try simp only [sl]); try omega) only [sm,aSel,Qu,Qv,Qw,Qx,Qy,Qj,Qi,Qq,QC,Qz,bd,QF,look,aput,Qm,QB,Qf,QI,abin,anil,QG,Qb,QA,ty,↓reduceIte,Nat.reduceEqDiff,Nat.reduceAdd,Nat.reduceSub,Nat.reduceMul,Int.reduceLT,Int.reduceLE,Int.reduceNeg,Int.reduceToNat,reduceCtorEq,Nat.reduceBEq,Nat.reduceBNe,Qk,Qe,Value.cells,am,mm,keep, anot32, f0, f5, f6, hsl, hcl]
    try simp -implicitDefEqProofs (disch := (try simp only [sl]); try omega) only [sm,aSel,Qu,Qv,Qw,Qx,Qy,Qj,Qi,Qq,QC,Qz,bd,QF,look,aput,Qm,QB,Qf,QI,abin,anil,QG,Qb,QA,ty,↓reduceIte,Nat.reduceEqDiff,Nat.reduceAdd,Nat.reduceSub,Nat.reduceMul,Int.reduceLT,Int.reduceLE,Int.reduceNeg,Int.reduceToNat,reduceCtorEq,Nat.reduceBEq,Nat.reduceBNe,Qk,Qe,Value.cells,am,mm,keep, anot32, f0, f5, f6, hsl, hcl]
    iterate 1 ((repeat first | refine Qo ?_ | refine Qn ?_); (first | refine awp_region_drawC (id := 8) [(0, []), (2, []), (5, []), (8, []), (9, []), (10, []), (11, []), (12, []), (13, []), (14, []), (15, []), (16, []), (17, []), (18, []), (19, []), (20, []), (21, []), (22, []), (1, [10, 14, 18, 20]), (3, [10, 14, 18, 20]), (4, []), (6, [10, 14, 18, 20]), (7, []), (23, []), (24, [])] mixed (by kernel_rfl) ?_); simp -implicitDefEqProofs (disch := (try simp only [sl]); try omega) only [sm,aSel,Qu,Qv,Qw,Qx,Qy,Qj,Qi,Qq,QC,Qz,bd,QF,look,aput,Qm,QB,Qf,QI,abin,anil,Qb,QA,ty,↓reduceIte,Nat.reduceEqDiff,Nat.reduceAdd,Nat.reduceSub,Nat.reduceMul,Int.reduceLT,Int.reduceLE,Int.reduceNeg,Int.reduceToNat,reduceCtorEq,Nat.reduceBEq,Nat.reduceBNe,Qk,Qe,Value.cells,am,mm,keep, anot32, f0, f5, f6, hsl, hcl])
    refine ACalls.mono (sturn_calls x0 2 _ (by omega) (by omega)) ?_
    rintro _ _ ⟨rfl, hHH⟩
    rw [hHH]
    clear hHH
    simp -implicitDefEqProofs (disch := (try simp only [sl]); try omega) only [sm,aSel,Qu,Qv,Qw,Qx,Qy,Qj,Qi,Qq,QC,Qz,bd,QF,look,aput,Qm,QB,Qf,QI,abin,anil,Qb,QA,ty,↓reduceIte,Nat.reduceEqDiff,Nat.reduceAdd,Nat.reduceSub,Nat.reduceMul,Int.reduceLT,Int.reduceLE,Int.reduceNeg,Int.reduceToNat,reduceCtorEq,Nat.reduceBEq,Nat.reduceBNe,Qk,Qe,Value.cells,am,mm,keep, anot32, f0, f5, f6, hsl, hcl]
    refine ACalls.mono (sturn_calls x0 13 _ (by omega) (by omega)) ?_
    rintro _ _ ⟨rfl, hHH⟩
    rw [hHH]
    clear hHH
    simp -implicitDefEqProofs (disch := (try simp only [sl]); try omega) only [sm,aSel,Qu,Qv,Qw,Qx,Qy,Qj,Qi,Qq,QC,Qz,bd,QF,look,aput,Qm,QB,Qf,QI,abin,anil,Qb,QA,ty,↓reduceIte,Nat.reduceEqDiff,Nat.reduceAdd,Nat.reduceSub,Nat.reduceMul,Int.reduceLT,Int.reduceLE,Int.reduceNeg,Int.reduceToNat,reduceCtorEq,Nat.reduceBEq,Nat.reduceBNe,Qk,Qe,Value.cells,am,mm,keep, anot32, f0, f5, f6, hsl, hcl]
    refine ACalls.mono (sturn_calls x0 22 _ (by omega) (by omega)) ?_
    rintro _ _ ⟨rfl, hHH⟩
    rw [hHH]
    clear hHH
    simp -implicitDefEqProofs (disch := (try simp only [sl]); try omega) only [sm,aSel,Qu,Qv,Qw,Qx,Qy,Qj,Qi,Qq,QC,Qz,bd,QF,look,aput,Qm,QB,Qf,QI,abin,anil,Qb,QA,ty,↓reduceIte,Nat.reduceEqDiff,Nat.reduceAdd,Nat.reduceSub,Nat.reduceMul,Int.reduceLT,Int.reduceLE,Int.reduceNeg,Int.reduceToNat,reduceCtorEq,Nat.reduceBEq,Nat.reduceBNe,Qk,Qe,Value.cells,am,mm,keep, anot32, f0, f5, f6, hsl, hcl]
    iterate 4 ((repeat first | refine Qo ?_ | refine Qn ?_); (first | refine awp_region_drawC (id := 9) [(0, []), (1, []), (2, [])] mixed (by kernel_rfl) ?_ | refine Qp (by kernel_rfl) ?_); simp -implicitDefEqProofs (disch := (try simp only [sl]); try omega) only [sm,QJ,aSel,Qu,Qv,Qw,Qx,Qy,Qj,Qi,Qq,QC,Qz,bd,QF,look,aput,Qm,QB,Qf,QI,abin,anil,Qb,QA,Qr,aslice3,asl3,loN,hiN,ty,↓reduceIte,Nat.reduceEqDiff,Nat.reduceAdd,Nat.reduceSub,Nat.reduceMul,Int.reduceLT,Int.reduceLE,Int.reduceNeg,Int.reduceToNat,reduceCtorEq,Nat.reduceBEq,Nat.reduceBNe,Qk,Qe,Value.cells,am,mm,keep, anot32, f0, f5, f6, hsl, hcl, acopy, asrc, ovr, List.take_succ_cons, List.take_zero, List.drop_succ_cons, List.all_cons, List.all_nil, cellv, Nat.min_self, List.set_cons_zero, List.set_cons_succ])
    refine ⟨t + 1, by omega, (by repeat first | exact Forgets.nil | refine Forgets.cons (by first | (simp only [look, ↓reduceIte, Nat.reduceEqDiff]; done) | (simp only [look, ↓reduceIte, Nat.reduceEqDiff]; rfl) | simp [look]) ?_), ?_, by omega⟩
    rw [hnx]; rfl
  intro h
  try simp only [ge_iff_le, gt_iff_lt, decide_eq_true_eq, decide_eq_false_iff_not, Nat.not_lt, Int.not_lt, Nat.not_le, Int.not_le, Bool.and_eq_true, Bool.or_eq_true, Bool.or_eq_false_iff, bne_iff_ne, ne_eq, beq_iff_eq, bne_eq_false_iff_eq, beq_eq_false_iff_ne, Bool.not_eq_true, Bool.not_eq_false, Bool.not_eq_eq_eq_not, Bool.not_true, Bool.not_false, Nat.not_le, Int.ofNat_lt, Int.ofNat_le, Int.natCast_inj] at h
  obtain rfl : t = 64 := by omega
  iterate 2 ((repeat first | refine Qo ?_ | refine Qn ?_); (first | refine awp_exit ?_ | refine Qp (by kernel_rfl) ?_); simp -implicitDefEqProofs (disch := (try simp only [sl]); try omega) only [sm,QJ,Qj,Qi,Qq,QC,bd,look,aput,QB,Qf,ty,↓reduceIte,Nat.reduceEqDiff,Nat.reduceAdd,Nat.reduceSub,Nat.reduceMul,Int.reduceLT,Int.reduceLE,Int.reduceNeg,Int.reduceToNat,reduceCtorEq,Nat.reduceBEq,Nat.reduceBNe,Qk,Qe,Value.cells,am,mm,keep, hh, hyl, hsl, hcl])
  generalize rndsL ks ws hs 64 = x at *
  have p0 : (H4 ++ [ABlk.own (x.map U32)])[H.length]? = some (.own ((fillL (fun i => hs.getD i 0 + x.getD i 0) hs 0).map U32)) := by rw [gpl _ _ _ g0]; exact d0
  have p1 : (H4 ++ [ABlk.own (x.map U32)])[H.length + 1]? = some (.own (List.replicate 8 (Value.int .u32 0))) := by rw [gpl _ _ _ g1]; exact d1
  have p7 : (H4 ++ [ABlk.own (x.map U32)])[H4.length]? = some (.own (x.map U32)) := gpush _ _
  have p2 : Ext H (H4 ++ [ABlk.own (x.map U32)]) := h04.pushed _
  generalize H4 ++ [ABlk.own (x.map U32)] = H5 at *
  have q7 := got_lt p7
  generalize H4.length = q at *
  repeat first | refine Qo ?_ | refine Qn ?_
  refine awp_forK [2, 4, 7] (fun i : Nat × AH => [(92, I64 i.1)]) (fun i : Nat × AH => i.2) (fun i : Nat × AH => i.1 ≤ 8 ∧ Ext H i.2 ∧ i.2[H.length]? = some (.own ((fillL (fun i => hs.getD i 0 + x.getD i 0) hs i.1).map U32)) ∧ i.2[H.length + 1]? = some (.own (List.replicate 8 (Value.int .u32 0))) ∧ i.2[q]? = some (.own (x.map U32))) (fun i : Nat × AH => 8 - i.1) ((0, H5)) (⟨by omega, p2, p0, p1, p7⟩) (by repeat first | exact Forgets.nil | refine Forgets.cons (by first | (simp only [look, ↓reduceIte, Nat.reduceEqDiff]; done) | (simp only [look, ↓reduceIte, Nat.reduceEqDiff]; rfl) | simp [look]) ?_) rfl ?_
  rintro ⟨i, H6⟩ ⟨hi, r2, r0, r1, r7⟩
  simp only [] at hi r2 r0 r1 r7 ⊢
  have hfl : (fillL (fun i => hs.getD i 0 + x.getD i 0) hs i).length = 8 := by rw [fillL_length, hh]
  try simp -implicitDefEqProofs (disch := (try simp only [sl]); try omega) only [sm,QJ,Qj,Qi,Qq,QC,bd,look,aput,QB,Qf,ty,↓reduceIte,Nat.reduceEqDiff,Nat.reduceAdd,Nat.reduceSub,Nat.reduceMul,Int.reduceLT,Int.reduceLE,Int.reduceNeg,Int.reduceToNat,reduceCtorEq,Nat.reduceBEq,Nat.reduceBNe,Qk,Qe,Value.cells,am,mm,keep, hh, hyl, hsl, hcl]
  iterate 1 ((repeat first | refine Qo ?_ | refine Qn ?_); (first | refine Qp (by kernel_rfl) ?_); simp -implicitDefEqProofs (disch := (try simp only [sl]); try omega) only [sm,QJ,Qj,Qi,Qq,QC,bd,look,aput,QB,Qf,QI,abin,anil,ty,↓reduceIte,Nat.reduceEqDiff,Nat.reduceAdd,Nat.reduceSub,Nat.reduceMul,Int.reduceLT,Int.reduceLE,Int.reduceNeg,Int.reduceToNat,reduceCtorEq,Nat.reduceBEq,Nat.reduceBNe,Qk,Qe,Value.cells,am,mm,keep, hh, hyl, hsl, hcl])
  repeat first | refine Qo ?_ | refine Qn ?_
  refine awp_if _ rfl (by simp only [aeval_tmp, look, ↓reduceIte, Nat.reduceEqDiff]; exact rfl) ?_ ?_
  · intro hlt
    try simp only [ge_iff_le, gt_iff_lt, decide_eq_true_eq, decide_eq_false_iff_not, Nat.not_lt, Int.not_lt, Nat.not_le, Int.not_le, Bool.and_eq_true, Bool.or_eq_true, Bool.or_eq_false_iff, bne_iff_ne, ne_eq, beq_iff_eq, bne_eq_false_iff_eq, beq_eq_false_iff_ne, Bool.not_eq_true, Bool.not_eq_false, Bool.not_eq_eq_eq_not, Bool.not_true, Bool.not_false, Nat.not_le, Int.ofNat_lt, Int.ofNat_le, Int.natCast_inj] at hlt
    have s0 := AH.cells_own r0
    have s7 := AH.cells_own r7
    have t0 := got_lt r0
    iterate 4 ((repeat first | refine Qo ?_ | refine Qn ?_); (first | refine awp_skip ?_ | refine Qp (by kernel_rfl) ?_ | refine awp_region_drawC (id := 16) [(0, []), (1, []), (2, []), (3, []), (4, []), (5, []), (6, []), (7, []), (8, [])] mixed (by kernel_rfl) ?_); simp -implicitDefEqProofs (disch := (try simp only [sl]); try omega) only [sm,QJ,aSel,Qu,Qv,Qw,Qx,Qy,Qj,Qi,Qq,QC,Qz,bd,QF,look,aput,Qm,QB,Qf,QI,abin,anil,Qb,QA,ty,↓reduceIte,Nat.reduceEqDiff,Nat.reduceAdd,Nat.reduceSub,Nat.reduceMul,Int.reduceLT,Int.reduceLE,Int.reduceNeg,Int.reduceToNat,reduceCtorEq,Nat.reduceBEq,Nat.reduceBNe,Qk,Qe,Value.cells,am,mm,keep, hh, hyl, hsl, hcl, s0, s7, hfl, r0])
    rw [fillL_getD _ _ _ _ (by omega), show (fillL (fun i => hs.getD i 0 + x.getD i 0) hs i).set i (hs.getD i 0 + x.getD i 0) = fillL (fun i => hs.getD i 0 + x.getD i 0) hs (i + 1) from rfl]
    refine ⟨(i + 1, H6.set H.length (.own ((fillL (fun i => hs.getD i 0 + x.getD i 0) hs (i + 1)).map U32))), ⟨by simp only []; omega, Ext.set r2 _ (Nat.le_refl _), gset H6 H.length _ t0, (gsetn H6 H.length (H.length + 1) _ (by omega)).trans r1, (gsetn H6 H.length q _ (by omega)).trans r7⟩, (by repeat first | exact Forgets.nil | refine Forgets.cons (by first | (simp only [look, ↓reduceIte, Nat.reduceEqDiff]; done) | (simp only [look, ↓reduceIte, Nat.reduceEqDiff]; rfl) | simp [look]) ?_), ?_⟩
    first | omega | exact ⟨rfl, by omega⟩ | exact ⟨rfl, by simp only []; omega⟩ | (simp only []; omega)
  intro h
  try simp only [ge_iff_le, gt_iff_lt, decide_eq_true_eq, decide_eq_false_iff_not, Nat.not_lt, Int.not_lt, Nat.not_le, Int.not_le, Bool.and_eq_true, Bool.or_eq_true, Bool.or_eq_false_iff, bne_iff_ne, ne_eq, beq_iff_eq, bne_eq_false_iff_eq, beq_eq_false_iff_ne, Bool.not_eq_true, Bool.not_eq_false, Bool.not_eq_eq_eq_not, Bool.not_true, Bool.not_false, Nat.not_le, Int.ofNat_lt, Int.ofNat_le, Int.natCast_inj] at h
  obtain rfl : i = 8 := by omega
  rw [show fillL (fun i => hs.getD i 0 + x.getD i 0) hs 8 = addL hs x from fillL_all _ _ 8 hh] at r0
  have hal := addL_length hs x
  generalize addL hs x = ys at *
  have s0 := AH.cells_own r0
  have u1 := got_lt r1
  iterate 2 ((repeat first | refine Qo ?_ | refine Qn ?_); (first | refine awp_exit ?_ | refine Qp (by kernel_rfl) ?_); simp -implicitDefEqProofs (disch := (try simp only [sl]); try omega) only [sm,QJ,Qj,Qi,Qq,QC,Qz,bd,QF,look,aput,Qm,QB,Qf,QA,ty,↓reduceIte,Nat.reduceEqDiff,Nat.reduceAdd,Nat.reduceSub,Nat.reduceMul,Int.reduceLT,Int.reduceLE,Int.reduceNeg,Int.reduceToNat,reduceCtorEq,Nat.reduceBEq,Nat.reduceBNe,Qk,Qe,Value.cells,am,mm,keep, hh, hyl, hsl, hcl, s0, r1, hal])
  first | refine awp_ret ?_ | skip
  show ∃ v, aresults Try.prog Try.f62 _ _ = some v ∧ _
  rw [aresults_1 (r := .cell 4 91) (by kernel_rfl)]
  simp -implicitDefEqProofs (disch := (try simp only [sl]); try omega) only [aresult, Option.some.injEq, exists_eq_left', sm,Qj,Qi,Qq,QC,Qz,bd,QF,look,aput,QB,Qf,QA,ty,↓reduceIte,Nat.reduceEqDiff,Nat.reduceAdd,Nat.reduceSub,Nat.reduceMul,Int.reduceLT,Int.reduceLE,Int.reduceNeg,Int.reduceToNat,reduceCtorEq,Nat.reduceBEq,Nat.reduceBNe,Qk,Qe,Value.cells,am,mm,keep, hh, hyl, hsl, hcl]
  exact (by repeat first | assumption | exact Ext.refl _ | exact Ext.pre (by assumption) | exact Ext.pre (Ext.pre (by assumption)) | exact Ext.pre (Ext.pre (Ext.pre (by assumption))) | exact Ext.pre (Ext.pre (Ext.pre (Ext.pre (by assumption)))) | apply Ext.pushed | refine Ext.both ?_ _ _ | refine Ext.set ?_ _ (by omega))
end Go.Proofs.Ytpiaohajbbdpdaa
