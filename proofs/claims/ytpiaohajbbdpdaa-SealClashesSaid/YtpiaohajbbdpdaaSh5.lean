/- sha: Len, the sum of a state, the sum of parts. sha: the sum of parts. -/
import Derived.Test.YtpiaohajbbdpdaaSh3

namespace Go.Proofs.Ytpiaohajbbdpdaa
open Go Go.RowKit
set_option linter.unusedSimpArgs false
set_option linter.unusedVariables false
set_option maxRecDepth 4000
def zN (n : Nat) : Nat := (119 - n % 64) % 64
def lenB (n : UInt64) (i : Nat) : UInt8 := ((8 * n) >>> UInt64.ofNat (8 * (7 - i))).toUInt8
def padB (n : Nat) : List UInt8 := (128 :: zb (zN n)) ++ (List.range 8).map (lenB (UInt64.ofNat n))
theorem padB_length (n : Nat) : (padB n).length = zN n + 9 := by simp [padB, zb]
def doutB (hs : List UInt32) : List UInt8 := (List.range 32).map fun i => (hs.getD (i / 4) 0 >>> UInt32.ofNat (24 - 8 * (i % 4))).toUInt8
theorem doutB_length (hs : List UInt32) : (doutB hs).length = 32 := by rw [doutB, List.length_map, List.length_range]
def digest (bs : List UInt8) : List UInt8 := doutB (absorb (bs ++ padB bs.length) ((bs ++ padB bs.length).length / 64))
theorem digest_length (bs : List UInt8) : (digest bs).length = 32 := doutB_length _
theorem zb_succ (j : Nat) : (128 :: zb j) ++ [0] = 128 :: zb (j + 1) := by rw [zb, zb, List.replicate_succ', List.cons_append]
set_option maxHeartbeats 4000000 in
theorem sum_calls (v : Value) (bs : List UInt8) (H : AH) {b : Nat} (hv : St b H v bs) (hl : bs.length ≤ 1099511627000) :
    ACalls Try.prog 50 #[v] H fun r H' => r = .agg ((digest bs).map U8).toArray ∧ Ext H H' := by
  have hv0 := hv
  obtain ⟨hs, r, rfl, hh, hr, habs, -⟩ := hv
  have lr := alen_sl (P := Try.prog) (T := 26) (by simp only [ty]) hr
  rw [List.length_map, List.length_drop, show bs.length - 64 * (bs.length / 64) = bs.length % 64 by omega] at lr
  have hX := stx.1 hs r (UInt64.ofNat bs.length) hh
  refine acalls_of_body Try.func50 rfl Try.ntmps50 (by simp) ?_
  simp only [argsT, Nat.reduceAdd]
  iterate 2 ((repeat first | refine Qo ?_ | refine Qn ?_); (first | refine Qp (by kernel_rfl) ?_); simp -implicitDefEqProofs (disch := (try simp only [sl]); try omega) only [sm,QJ,Qj,Qi,Qq,QC,bd,look,aput,QB,Qf,ty,↓reduceIte,Nat.reduceEqDiff,Nat.reduceAdd,Nat.reduceSub,Nat.reduceMul,Int.reduceLT,Int.reduceLE,Int.reduceNeg,Int.reduceToNat,reduceCtorEq,Nat.reduceBEq,Nat.reduceBNe,Qk,Qe,Value.cells,am,mm,keep, stx, hh, lr])
  generalize hH1 : H ++ [ABlk.own (stX hs r (UInt64.ofNat bs.length))] ++ [ABlk.own (List.replicate 32 (Value.int .u8 0))] = H1
  have x1 : Ext H H1 := by rw [← hH1]; exact (by repeat first | assumption | exact Ext.refl _ | exact Ext.pre (by assumption) | exact Ext.pre (Ext.pre (by assumption)) | exact Ext.pre (Ext.pre (Ext.pre (by assumption))) | exact Ext.pre (Ext.pre (Ext.pre (Ext.pre (by assumption)))) | apply Ext.pushed | refine Ext.both ?_ _ _ | refine Ext.set ?_ _ (by omega))
  have a1 : H1[H.length]? = some (.own (stX hs r (UInt64.ofNat bs.length))) := by rw [← hH1]; exact (by simp -implicitDefEqProofs (disch := (try simp only [sl]); try omega) only [sm,Qj,Qi,Qq,QC,bd,look,aput,ty,↓reduceIte,Nat.reduceEqDiff,Nat.reduceAdd,Nat.reduceSub,Nat.reduceMul,Int.reduceLT,Int.reduceLE,Int.reduceNeg,Int.reduceToNat,reduceCtorEq,Nat.reduceBEq,Nat.reduceBNe,Qk,Qe,Value.cells,am,mm,keep])
  have d1 : H1[H.length + 1]? = some (.own (List.replicate 32 (Value.int .u8 0))) := by rw [← hH1]; exact (by simp -implicitDefEqProofs (disch := (try simp only [sl]); try omega) only [sm,Qj,Qi,Qq,QC,bd,look,aput,ty,↓reduceIte,Nat.reduceEqDiff,Nat.reduceAdd,Nat.reduceSub,Nat.reduceMul,Int.reduceLT,Int.reduceLE,Int.reduceNeg,Int.reduceToNat,reduceCtorEq,Nat.reduceBEq,Nat.reduceBNe,Qk,Qe,Value.cells,am,mm,keep])
  have l1 : H1.length = H.length + 2 := by rw [← hH1]; simp
  clear hH1
  rw [← l1, show [Value.int .u8 128] = (128 :: zb 0).map U8 from rfl]
  have o1 : OS H1.length (H1 ++ [ABlk.own ((128 :: zb 0).map U8)]) (.slice (some ⟨H1.length, 0, none⟩) 1 1) ((128 :: zb 0).map U8) := OS.new (Nat.le_refl _) rfl
  have k1 : Keeps H1.length H1 (H1 ++ [ABlk.own ((128 :: zb 0).map U8)]) := (Keeps.refl _ _).push (Nat.le_refl _) _
  generalize H1 ++ [ABlk.own ((128 :: zb 0).map U8)] = H2 at *
  generalize Value.slice (some ⟨H1.length, 0, none⟩) 1 1 = s2 at *
  repeat first | refine Qo ?_ | refine Qn ?_
  refine awp_forK [1, 2] (fun i : Nat × AH × Value => [(3, i.2.2)]) (fun i : Nat × AH × Value => i.2.1) (fun i : Nat × AH × Value => i.1 ≤ zN bs.length ∧ Keeps H1.length H1 i.2.1 ∧ OS H1.length i.2.1 i.2.2 ((128 :: zb i.1).map U8)) (fun i : Nat × AH × Value => zN bs.length - i.1) ((0, H2, s2)) (⟨Nat.zero_le _, k1, o1⟩) (by repeat first | exact Forgets.nil | refine Forgets.cons (by first | (simp only [look, ↓reduceIte, Nat.reduceEqDiff]; done) | (simp only [look, ↓reduceIte, Nat.reduceEqDiff]; rfl) | simp [look]) ?_) rfl ?_
  rintro ⟨j, H3, s3⟩ ⟨hj, k3, o3⟩
  simp only [] at hj k3 o3 ⊢
  have a3 := k3.get (got_lt a1) a1
  have b3 := AH.cells_own a3
  have ls := alen_sl (P := Try.prog) (T := 26) (by simp only [ty]) o3.sl
  rw [List.length_map, List.length_cons, zb_length] at ls
  have hzl : j ≤ 63 := by unfold zN at hj; omega
  have hcond : (IntKind.i64.wrap (IntKind.i64.wrap (((bs.length % 64 : Nat) : Int) + ((j + 1 : Nat) : Int)) + 8)).tmod 64 = (((bs.length % 64 + (j + 1) + 8) % 64 : Nat) : Int) := by
    rw [wj64 (z := ((bs.length % 64 : Nat) : Int) + ((j + 1 : Nat) : Int)) (by omega) (by omega), wj64 (by omega) (by omega), Int.tmod_eq_emod_of_nonneg (by omega)]; omega
  try simp -implicitDefEqProofs (disch := (try simp only [sl]); try omega) only [sm,QJ,Qj,Qi,Qq,QC,bd,look,aput,QB,Qf,ty,↓reduceIte,Nat.reduceEqDiff,Nat.reduceAdd,Nat.reduceSub,Nat.reduceMul,Int.reduceLT,Int.reduceLE,Int.reduceNeg,Int.reduceToNat,reduceCtorEq,Nat.reduceBEq,Nat.reduceBNe,Qk,Qe,Value.cells,am,mm,keep, stx, hh, lr]
  iterate 1 ((repeat first | refine Qo ?_ | refine Qn ?_); (first | refine Qp (by kernel_rfl) ?_); simp -implicitDefEqProofs (disch := (try simp only [sl]); try omega) only [sm,QJ,Qj,Qi,Qq,QC,Qz,bd,QF,look,aput,QB,Qf,QI,abin,anil,Qc,QA,ty,↓reduceIte,Nat.reduceEqDiff,Nat.reduceAdd,Nat.reduceSub,Nat.reduceMul,Int.reduceLT,Int.reduceLE,Int.reduceNeg,Int.reduceToNat,reduceCtorEq,Nat.reduceBEq,Nat.reduceBNe,Qk,Qe,Value.cells,am,mm,keep, stx, hh, lr, b3, ls, hcond])
  repeat first | refine Qo ?_ | refine Qn ?_
  refine awp_if _ rfl (by simp only [aeval_tmp, look, ↓reduceIte, Nat.reduceEqDiff]; exact rfl) ?_ ?_
  · intro hne
    try simp only [ge_iff_le, gt_iff_lt, decide_eq_true_eq, decide_eq_false_iff_not, Nat.not_lt, Int.not_lt, Nat.not_le, Int.not_le, Bool.and_eq_true, Bool.or_eq_true, Bool.or_eq_false_iff, bne_iff_ne, ne_eq, beq_iff_eq, bne_eq_false_iff_eq, beq_eq_false_iff_ne, Bool.not_eq_true, Bool.not_eq_false, Bool.not_eq_eq_eq_not, Bool.not_true, Bool.not_false, Nat.not_le, Int.ofNat_lt, Int.ofNat_le, Int.natCast_inj] at hne
    have hj' : j < zN bs.length := by unfold zN at hj ⊢; omega
    obtain ⟨s4, H4, ha, o4, k4⟩ := OS.app1 (P := Try.prog) (t := 26) (tx := 26) (bytes := 1) (c := Value.int .u8 0) (by simp only [ty]) (by simp only [ty]) o3 rfl (by rw [List.length_map, List.length_cons, zb_length]; unfold zN at hj; omega) (by decide) k3.1
    iterate 2 ((repeat first | refine Qo ?_ | refine Qn ?_); (first | refine awp_skip ?_ | refine Qp (by kernel_rfl) ?_); simp -implicitDefEqProofs (disch := (try simp only [sl]); try omega) only [sm,QJ,Qj,Qi,Qq,QC,bd,look,aput,Qm,QB,Qf,ty,↓reduceIte,Nat.reduceEqDiff,Nat.reduceAdd,Nat.reduceSub,Nat.reduceMul,Int.reduceLT,Int.reduceLE,Int.reduceNeg,Int.reduceToNat,reduceCtorEq,Nat.reduceBEq,Nat.reduceBNe,Qk,Qe,Value.cells,am,mm,keep, stx, hh, lr, ha])
    refine ⟨(j + 1, H4, s4), ⟨by simp only []; omega, k3.trans k4, by show OS H1.length H4 s4 ((128 :: zb (j + 1)).map U8); rw [← zb_succ, List.map_append]; exact o4⟩, (by repeat first | exact Forgets.nil | refine Forgets.cons (by first | (simp only [look, ↓reduceIte, Nat.reduceEqDiff]; done) | (simp only [look, ↓reduceIte, Nat.reduceEqDiff]; rfl) | simp [look]) ?_), ?_⟩
    first | omega | exact ⟨rfl, by omega⟩ | exact ⟨rfl, by simp only []; omega⟩ | (simp only []; omega)
  intro heq
  try simp only [ge_iff_le, gt_iff_lt, decide_eq_true_eq, decide_eq_false_iff_not, Nat.not_lt, Int.not_lt, Nat.not_le, Int.not_le, Bool.and_eq_true, Bool.or_eq_true, Bool.or_eq_false_iff, bne_iff_ne, ne_eq, beq_iff_eq, bne_eq_false_iff_eq, beq_eq_false_iff_ne, Bool.not_eq_true, Bool.not_eq_false, Bool.not_eq_eq_eq_not, Bool.not_true, Bool.not_false, Nat.not_le, Int.ofNat_lt, Int.ofNat_le, Int.natCast_inj] at heq
  have hj' : j = zN bs.length := by unfold zN at hj ⊢; omega
  subst hj'
  iterate 2 ((repeat first | refine Qo ?_ | refine Qn ?_); (first | refine awp_exit ?_ | refine Qp (by kernel_rfl) ?_); simp -implicitDefEqProofs (disch := (try simp only [sl]); try omega) only [sm,QJ,Qj,Qi,Qq,QC,bd,look,aput,QB,Qf,ty,↓reduceIte,Nat.reduceEqDiff,Nat.reduceAdd,Nat.reduceSub,Nat.reduceMul,Int.reduceLT,Int.reduceLE,Int.reduceNeg,Int.reduceToNat,reduceCtorEq,Nat.reduceBEq,Nat.reduceBNe,Qk,Qe,Value.cells,am,mm,keep, stx, hh, lr])
  generalize hP : 128 :: zb (zN bs.length) = P at *
  have hPl : P.length = zN bs.length + 1 := by rw [← hP, List.length_cons, zb_length]
  have hPz : zN bs.length ≤ 63 := by unfold zN; omega
  generalize hN : UInt64.ofNat bs.length = n at *
  have o5 : OS H1.length H3 s3 ((P ++ (List.range 0).map (lenB n)).map U8) := by rw [List.range_zero, List.map_nil, List.append_nil]; exact o3
  repeat first | refine Qo ?_ | refine Qn ?_
  refine awp_forK [1, 2] (fun i : Nat × AH × Value => [(21, I64 i.1), (3, i.2.2)]) (fun i : Nat × AH × Value => i.2.1) (fun i : Nat × AH × Value => i.1 ≤ 8 ∧ Keeps H1.length H1 i.2.1 ∧ OS H1.length i.2.1 i.2.2 ((P ++ (List.range i.1).map (lenB n)).map U8)) (fun i : Nat × AH × Value => 8 - i.1) ((0, H3, s3)) (⟨by omega, k3, o5⟩) (by repeat first | exact Forgets.nil | refine Forgets.cons (by first | (simp only [look, ↓reduceIte, Nat.reduceEqDiff]; done) | (simp only [look, ↓reduceIte, Nat.reduceEqDiff]; rfl) | simp [look]) ?_) rfl ?_
  clear o5 o3 k3 a3 b3 ls hcond
  rintro ⟨j, H3, s3⟩ ⟨hj, k3, o3⟩
  simp only [] at hj k3 o3 ⊢
  have a3 := k3.get (got_lt a1) a1
  have b3 := AH.cells_own a3
  try simp -implicitDefEqProofs (disch := (try simp only [sl]); try omega) only [sm,QJ,Qj,Qi,Qq,QC,bd,look,aput,QB,Qf,ty,↓reduceIte,Nat.reduceEqDiff,Nat.reduceAdd,Nat.reduceSub,Nat.reduceMul,Int.reduceLT,Int.reduceLE,Int.reduceNeg,Int.reduceToNat,reduceCtorEq,Nat.reduceBEq,Nat.reduceBNe,Qk,Qe,Value.cells,am,mm,keep, stx, hh, lr]
  iterate 1 ((repeat first | refine Qo ?_ | refine Qn ?_); (first | refine Qp (by kernel_rfl) ?_); simp -implicitDefEqProofs (disch := (try simp only [sl]); try omega) only [sm,QJ,Qj,Qi,Qq,QC,bd,look,aput,QB,Qf,QI,abin,anil,ty,↓reduceIte,Nat.reduceEqDiff,Nat.reduceAdd,Nat.reduceSub,Nat.reduceMul,Int.reduceLT,Int.reduceLE,Int.reduceNeg,Int.reduceToNat,reduceCtorEq,Nat.reduceBEq,Nat.reduceBNe,Qk,Qe,Value.cells,am,mm,keep, stx, hh, lr])
  repeat first | refine Qo ?_ | refine Qn ?_
  refine awp_if _ rfl (by simp only [aeval_tmp, look, ↓reduceIte, Nat.reduceEqDiff]; exact rfl) ?_ ?_
  · intro hne
    try simp only [ge_iff_le, gt_iff_lt, decide_eq_true_eq, decide_eq_false_iff_not, Nat.not_lt, Int.not_lt, Nat.not_le, Int.not_le, Bool.and_eq_true, Bool.or_eq_true, Bool.or_eq_false_iff, bne_iff_ne, ne_eq, beq_iff_eq, bne_eq_false_iff_eq, beq_eq_false_iff_ne, Bool.not_eq_true, Bool.not_eq_false, Bool.not_eq_eq_eq_not, Bool.not_true, Bool.not_false, Nat.not_le, Int.ofNat_lt, Int.ofNat_le, Int.natCast_inj] at hne
    obtain ⟨s4, H4, ha, o4, k4⟩ := OS.app1 (P := Try.prog) (t := 26) (tx := 26) (bytes := 1) (c := U8 (lenB n j)) (by simp only [ty]) (by simp only [ty]) o3 rfl (by simp [hPl]; omega) (by decide) k3.1
    rw [lenB] at ha
    iterate 4 ((repeat first | refine Qo ?_ | refine Qn ?_); (first | refine awp_skip ?_ | refine Qp (by kernel_rfl) ?_); simp -implicitDefEqProofs (disch := (try simp only [sl]); try omega) only [sm,QJ,Qj,Qi,Qq,QC,Qz,bd,QF,look,aput,Qm,QH,QB,Qf,Qg,QI,abin,anil,Qc,QA,ty,↓reduceIte,Nat.reduceEqDiff,Nat.reduceAdd,Nat.reduceSub,Nat.reduceMul,Int.reduceLT,Int.reduceLE,Int.reduceNeg,Int.reduceToNat,reduceCtorEq,Nat.reduceBEq,Nat.reduceBNe,Qk,Qe,Value.cells,am,mm,keep, stx, hh, lr, b3, ha])
    have hsx : (P ++ (List.range (j + 1)).map (lenB n)).map U8 = (P ++ (List.range j).map (lenB n)).map U8 ++ [U8 (lenB n j)] := by simp [List.range_succ]
    refine ⟨(j + 1, H4, s4), ⟨by simp only []; omega, k3.trans k4, by simp only []; rw [hsx]; exact o4⟩, (by repeat first | exact Forgets.nil | refine Forgets.cons (by first | (simp only [look, ↓reduceIte, Nat.reduceEqDiff]; done) | (simp only [look, ↓reduceIte, Nat.reduceEqDiff]; rfl) | simp [look]) ?_), ?_⟩
    first | omega | exact ⟨rfl, by omega⟩ | exact ⟨rfl, by simp only []; omega⟩ | (simp only []; omega)
  intro heq
  try simp only [ge_iff_le, gt_iff_lt, decide_eq_true_eq, decide_eq_false_iff_not, Nat.not_lt, Int.not_lt, Nat.not_le, Int.not_le, Bool.and_eq_true, Bool.or_eq_true, Bool.or_eq_false_iff, bne_iff_ne, ne_eq, beq_iff_eq, bne_eq_false_iff_eq, beq_eq_false_iff_ne, Bool.not_eq_true, Bool.not_eq_false, Bool.not_eq_eq_eq_not, Bool.not_true, Bool.not_false, Nat.not_le, Int.ofNat_lt, Int.ofNat_le, Int.natCast_inj] at heq
  obtain rfl : j = 8 := by omega
  iterate 2 ((repeat first | refine Qo ?_ | refine Qn ?_); (first | refine awp_exit ?_ | refine Qp (by kernel_rfl) ?_); simp -implicitDefEqProofs (disch := (try simp only [sl]); try omega) only [sm,QJ,Qj,Qi,Qq,QC,Qz,bd,QF,look,aput,Qm,QB,Qf,QA,ty,↓reduceIte,Nat.reduceEqDiff,Nat.reduceAdd,Nat.reduceSub,Nat.reduceMul,Int.reduceLT,Int.reduceLE,Int.reduceNeg,Int.reduceToNat,reduceCtorEq,Nat.reduceBEq,Nat.reduceBNe,Qk,Qe,Value.cells,am,mm,keep, stx, hh, lr, b3])
  have hpad : P ++ (List.range 8).map (lenB n) = padB bs.length := by rw [padB, hP, hN]
  rw [hpad] at o3
  have x3 := k3.ext x1.length x1
  refine ACalls.mono (write_calls _ s3 bs (padB bs.length) H3 (hv0.mono x3) o3.sl (by rw [padB_length]; omega)) ?_
  rintro lv H4 ⟨hst, e4⟩
  obtain ⟨h2, r2, rfl, hh2, hr2, hab2, -⟩ := hst
  have hlen : (bs ++ padB bs.length).length = bs.length + zN bs.length + 9 := by rw [List.length_append, padB_length]; omega
  have hd : digest bs = doutB h2 := by rw [digest, hab2 (by rw [hlen]; unfold zN; omega)]
  rw [hd]
  have hX2 := stx.1 h2 r2 (UInt64.ofNat (bs ++ padB bs.length).length) hh2
  have hcv2 := stx_cellv h2 r2 (UInt64.ofNat (bs ++ padB bs.length).length) hr2.cellv'
  generalize UInt64.ofNat (bs ++ padB bs.length).length = m at *
  have d3 := k3.get (got_lt d1) d1
  have d4 := e4 _ _ d3
  have x4 := x3.trans e4
  have g4 := got_lt d4
  clear k3 o3 a3 b3 hv0 hP
  try simp -implicitDefEqProofs (disch := (try simp only [sl]); try omega) only [sm,QJ,Qj,Qi,Qq,QC,Qz,bd,QF,look,aput,Qm,QB,Qf,QA,ty,↓reduceIte,Nat.reduceEqDiff,Nat.reduceAdd,Nat.reduceSub,Nat.reduceMul,Int.reduceLT,Int.reduceLE,Int.reduceNeg,Int.reduceToNat,reduceCtorEq,Nat.reduceBEq,Nat.reduceBNe,Qk,Qe,Value.cells,am,mm,keep, stx, hh, lr, hcv2, hh2, hX2]
  iterate 2 ((repeat first | refine Qo ?_ | refine Qn ?_); (first | refine Qp (by kernel_rfl) ?_); simp -implicitDefEqProofs (disch := (try simp only [sl]); try omega) only [sm,QJ,Qj,Qi,Qq,QC,bd,look,aput,QB,Qf,ty,↓reduceIte,Nat.reduceEqDiff,Nat.reduceAdd,Nat.reduceSub,Nat.reduceMul,Int.reduceLT,Int.reduceLE,Int.reduceNeg,Int.reduceToNat,reduceCtorEq,Nat.reduceBEq,Nat.reduceBNe,Qk,Qe,Value.cells,am,mm,keep, stx, hh, lr, hcv2, hh2, hX2])
  have hget := fun k hk => stx_get h2 r2 m k hh2 hk
  have hdl := doutB_length h2
  have hfill : fillL (fun i => (h2.getD (i / 4) 0 >>> UInt32.ofNat (24 - 8 * (i % 4))).toUInt8) (zb 32) 32 = doutB h2 := fillL_all _ _ 32 (zb_length 32)
  have hfl := fillL_length (fun i => (h2.getD (i / 4) 0 >>> UInt32.ofNat (24 - 8 * (i % 4))).toUInt8) (zb 32)
  rw [QO]
  generalize hF : (fun i => (h2.getD (i / 4) 0 >>> UInt32.ofNat (24 - 8 * (i % 4))).toUInt8) = F at *
  have hzl := zb_length 32
  generalize zb 32 = z at *
  have p5 : (H4 ++ [ABlk.own (stX h2 r2 m)])[H4.length]? = some (.own (stX h2 r2 m)) := gpush _ _
  have x5 : Ext H (H4 ++ [ABlk.own (stX h2 r2 m)]) := x4.pushed _
  have d5 := Ext.push H4 [ABlk.own (stX h2 r2 m)] _ _ d4
  have l5 : (H4 ++ [ABlk.own (stX h2 r2 m)]).length = H4.length + 1 := by simp
  rw [← l5]
  generalize H4 ++ [ABlk.own (stX h2 r2 m)] = H5 at *
  have c5 := AH.cells_own p5
  have g5 := got_lt d5
  have q5 := got_lt p5
  repeat first | refine Qo ?_ | refine Qn ?_
  refine awp_forK [2, 5, 6] (fun i : Nat => [(39, I64 i)]) (fun i : Nat => H5 ++ [.own ((fillL F z i).map U8)]) (fun i : Nat => i ≤ 32) (fun i : Nat => 32 - i) (0) (by omega) (by repeat first | exact Forgets.nil | refine Forgets.cons (by first | (simp only [look, ↓reduceIte, Nat.reduceEqDiff]; done) | (simp only [look, ↓reduceIte, Nat.reduceEqDiff]; rfl) | simp [look]) ?_) rfl ?_
  intro i hi
  have hfi := hfl i
  have hgi := hget (i / 4)
  try simp -implicitDefEqProofs (disch := (try simp only [sl]); try omega) only [sm,QJ,Qj,Qi,Qq,QC,bd,look,aput,QB,Qf,ty,↓reduceIte,Nat.reduceEqDiff,Nat.reduceAdd,Nat.reduceSub,Nat.reduceMul,Int.reduceLT,Int.reduceLE,Int.reduceNeg,Int.reduceToNat,reduceCtorEq,Nat.reduceBEq,Nat.reduceBNe,Qk,Qe,Value.cells,am,mm,keep, stx, hh, lr]
  iterate 1 ((repeat first | refine Qo ?_ | refine Qn ?_); (first | refine Qp (by kernel_rfl) ?_); simp -implicitDefEqProofs (disch := (try simp only [sl]); try omega) only [sm,QJ,Qj,Qi,Qq,QC,bd,look,aput,QB,Qf,QI,abin,anil,ty,↓reduceIte,Nat.reduceEqDiff,Nat.reduceAdd,Nat.reduceSub,Nat.reduceMul,Int.reduceLT,Int.reduceLE,Int.reduceNeg,Int.reduceToNat,reduceCtorEq,Nat.reduceBEq,Nat.reduceBNe,Qk,Qe,Value.cells,am,mm,keep, stx, hh, lr])
  repeat first | refine Qo ?_ | refine Qn ?_
  refine awp_if _ rfl (by simp only [aeval_tmp, look, ↓reduceIte, Nat.reduceEqDiff]; exact rfl) ?_ ?_
  · intro hlt
    try simp only [ge_iff_le, gt_iff_lt, decide_eq_true_eq, decide_eq_false_iff_not, Nat.not_lt, Int.not_lt, Nat.not_le, Int.not_le, Bool.and_eq_true, Bool.or_eq_true, Bool.or_eq_false_iff, bne_iff_ne, ne_eq, beq_iff_eq, bne_eq_false_iff_eq, beq_eq_false_iff_ne, Bool.not_eq_true, Bool.not_eq_false, Bool.not_eq_eq_eq_not, Bool.not_true, Bool.not_false, Nat.not_le, Int.ofNat_lt, Int.ofNat_le, Int.natCast_inj] at hlt
    have hgi' := hgi (by omega)
    iterate 4 ((repeat first | refine Qo ?_ | refine Qn ?_); (first | refine awp_skip ?_ | refine Qp (by kernel_rfl) ?_); simp -implicitDefEqProofs (disch := (try simp only [sl]); try omega) only [sm,QJ,Qj,Qi,Qq,QC,Qz,bd,QF,look,aput,Qm,QH,QB,Qf,Qg,QI,abin,anil,Qb,Qc,QA,ty,↓reduceIte,Nat.reduceEqDiff,Nat.reduceAdd,Nat.reduceSub,Nat.reduceMul,Int.reduceLT,Int.reduceLE,Int.reduceNeg,Int.reduceToNat,reduceCtorEq,Nat.reduceBEq,Nat.reduceBNe,Qk,Qe,Value.cells,am,mm,keep, stx, hh, lr, c5, hgi', hzl, hfi])
    have hb : (h2.getD (i / 4) 0 >>> UInt32.ofNat (24 - 8 * (i % 4))).toUInt8 = F i := by rw [← hF]
    rw [hb]
    refine ⟨i + 1, by omega, (by repeat first | exact Forgets.nil | refine Forgets.cons (by first | (simp only [look, ↓reduceIte, Nat.reduceEqDiff]; done) | (simp only [look, ↓reduceIte, Nat.reduceEqDiff]; rfl) | simp [look]) ?_), ?_⟩
    first | omega | exact ⟨rfl, by omega⟩ | exact ⟨rfl, by simp only []; omega⟩ | (simp only []; omega)
  intro hge
  try simp only [ge_iff_le, gt_iff_lt, decide_eq_true_eq, decide_eq_false_iff_not, Nat.not_lt, Int.not_lt, Nat.not_le, Int.not_le, Bool.and_eq_true, Bool.or_eq_true, Bool.or_eq_false_iff, bne_iff_ne, ne_eq, beq_iff_eq, bne_eq_false_iff_eq, beq_eq_false_iff_ne, Bool.not_eq_true, Bool.not_eq_false, Bool.not_eq_eq_eq_not, Bool.not_true, Bool.not_false, Nat.not_le, Int.ofNat_lt, Int.ofNat_le, Int.natCast_inj] at hge
  obtain rfl : i = 32 := by omega
  rw [hfill] at hfi ⊢
  generalize doutB h2 = dd at *
  iterate 2 ((repeat first | refine Qo ?_ | refine Qn ?_); (first | refine awp_exit ?_ | refine Qp (by kernel_rfl) ?_); simp -implicitDefEqProofs (disch := (try simp only [sl]); try omega) only [sm,QJ,Qj,Qi,Qq,QC,Qz,bd,QF,look,aput,Qm,QB,Qf,QA,ty,↓reduceIte,Nat.reduceEqDiff,Nat.reduceAdd,Nat.reduceSub,Nat.reduceMul,Int.reduceLT,Int.reduceLE,Int.reduceNeg,Int.reduceToNat,reduceCtorEq,Nat.reduceBEq,Nat.reduceBNe,Qk,Qe,Value.cells,am,mm,keep, stx, hh, lr, d5, hfi, hzl])
  first | refine awp_ret ?_ | skip
  show ∃ v, aresults Try.prog Try.f50 _ _ = some v ∧ _
  rw [aresults_1 (r := .cell 2 22) (by kernel_rfl)]
  simp -implicitDefEqProofs (disch := (try simp only [sl]); try omega) only [aresult, Option.some.injEq, exists_eq_left', sm,Qj,Qi,Qq,QC,Qz,bd,QF,look,aput,QB,Qf,QA,ty,↓reduceIte,Nat.reduceEqDiff,Nat.reduceAdd,Nat.reduceSub,Nat.reduceMul,Int.reduceLT,Int.reduceLE,Int.reduceNeg,Int.reduceToNat,reduceCtorEq,Nat.reduceBEq,Nat.reduceBNe,Qk,Qe,Value.cells,am,mm,keep, stx, hh, lr]
  exact (by repeat first | assumption | exact Ext.refl _ | exact Ext.pre (by assumption) | exact Ext.pre (Ext.pre (by assumption)) | exact Ext.pre (Ext.pre (Ext.pre (by assumption))) | exact Ext.pre (Ext.pre (Ext.pre (Ext.pre (by assumption)))) | apply Ext.pushed | refine Ext.both ?_ _ _ | refine Ext.set ?_ _ (by omega))
end Go.Proofs.Ytpiaohajbbdpdaa

namespace Go.Proofs.Ytpiaohajbbdpdaa
open Go Go.RowKit
set_option linter.unusedSimpArgs false
set_option linter.unusedVariables false
set_option maxRecDepth 4000
/-- Rows of bytes in a row. -/
def Parts (H : AH) (v : Value) (ps : List (Value × List UInt8)) : Prop := SL H v (ps.map (·.1)) ∧ ∀ p ∈ ps, SL H p.1 (p.2.map U8)
theorem Parts.mono {H H' : AH} {v : Value} {ps : List (Value × List UInt8)} (h : Parts H v ps) (e : Ext H H') : Parts H' v ps := ⟨h.1.mono e, fun p hp => (h.2 p hp).mono e⟩
theorem Parts.get {H : AH} {v : Value} {ps : List (Value × List UInt8)} (h : Parts H v ps) (i : Nat) (hi : i < ps.length) :
    ∃ g o e cs w b, v = .slice (some ⟨g, o, none⟩) ps.length e ∧ H.cells g = some cs ∧ cs[o + i]? = some w ∧ SL H w (b.map U8) ∧ ((ps.map (·.2)).take (i + 1)).flatten = ((ps.map (·.2)).take i).flatten ++ b := by
  obtain ⟨g, o, e, cs, h1, h2, -, -, h5, -⟩ := h.1.at (by rw [List.length_map]; omega)
  rw [List.length_map] at h1 h5
  refine ⟨g, o, e, cs, ps[i].1, ps[i].2, h1, h2, ?_, h.2 _ (List.getElem_mem hi), ?_⟩
  · rw [h5 i hi, List.getElem?_map, List.getElem?_eq_getElem hi]; rfl
  · rw [List.take_add_one, List.getElem?_map, List.getElem?_eq_getElem hi, List.flatten_append]; simp
def allB (ps : List (Value × List UInt8)) : List UInt8 := (ps.map (·.2)).flatten
theorem flatten_take_le (l : List (List UInt8)) (i : Nat) : ((l.take i).flatten).length ≤ l.flatten.length := by
  conv => rhs; rw [← List.take_append_drop i l, List.flatten_append, List.length_append]
  omega
set_option maxHeartbeats 4000000 in
theorem sumf_calls (v : Value) (ps : List (Value × List UInt8)) (H : AH) (hv : Parts H v ps) (hn : ps.length ≤ 1099511627776) (hl : (allB ps).length ≤ 1099511627000) :
    ACalls Try.prog 36 #[v] H fun r H' => r = .agg ((digest (allB ps)).map U8).toArray ∧ Ext H H' := by
  have lv := alen_sl (P := Try.prog) (T := 44) (by simp only [ty]) hv.1
  rw [List.length_map] at lv
  refine acalls_of_body Try.func36 rfl Try.ntmps36 (by simp) ?_
  simp only [argsT, Nat.reduceAdd]
  iterate 2 ((repeat first | refine Qo ?_ | refine Qn ?_); (first | refine Qp (by kernel_rfl) ?_); simp -implicitDefEqProofs (disch := (try simp only [sl]); try omega) only [sm,QJ,Qj,Qi,Qq,QC,bd,look,aput,Qm,QB,Qf,ty,↓reduceIte,Nat.reduceEqDiff,Nat.reduceAdd,Nat.reduceSub,Nat.reduceMul,Int.reduceLT,Int.reduceLE,Int.reduceNeg,Int.reduceToNat,reduceCtorEq,Nat.reduceBEq,Nat.reduceBNe,Qk,Qe,Value.cells,am,mm,keep])
  generalize hH1 : H ++ [ABlk.own (List.replicate 32 (Value.int .u8 0))] = H1
  have x1 : Ext H H1 := by rw [← hH1]; exact (by repeat first | assumption | exact Ext.refl _ | exact Ext.pre (by assumption) | exact Ext.pre (Ext.pre (by assumption)) | exact Ext.pre (Ext.pre (Ext.pre (by assumption))) | exact Ext.pre (Ext.pre (Ext.pre (Ext.pre (by assumption)))) | apply Ext.pushed | refine Ext.both ?_ _ _ | refine Ext.set ?_ _ (by omega))
  have a1 : H1[H.length]? = some (.own (List.replicate 32 (Value.int .u8 0))) := by rw [← hH1]; exact (by simp -implicitDefEqProofs (disch := (try simp only [sl]); try omega) only [sm,Qj,Qi,Qq,QC,bd,look,aput,ty,↓reduceIte,Nat.reduceEqDiff,Nat.reduceAdd,Nat.reduceSub,Nat.reduceMul,Int.reduceLT,Int.reduceLE,Int.reduceNeg,Int.reduceToNat,reduceCtorEq,Nat.reduceBEq,Nat.reduceBNe,Qk,Qe,Value.cells,am,mm,keep])
  clear hH1
  refine ACalls.mono (new_calls H1) ?_
  rintro w0 H2 ⟨hst, e2⟩
  have hst := hst (H2.length + 1)
  obtain ⟨X, rfl, hX, hXc⟩ := hst.cells
  try simp -implicitDefEqProofs (disch := (try simp only [sl]); try omega) only [sm,QJ,Qj,Qi,Qq,QC,bd,look,aput,Qm,QB,Qf,ty,↓reduceIte,Nat.reduceEqDiff,Nat.reduceAdd,Nat.reduceSub,Nat.reduceMul,Int.reduceLT,Int.reduceLE,Int.reduceNeg,Int.reduceToNat,reduceCtorEq,Nat.reduceBEq,Nat.reduceBNe,Qk,Qe,Value.cells,am,mm,keep, hXc]
  iterate 1 ((repeat first | refine Qo ?_ | refine Qn ?_); (first | refine Qp (by kernel_rfl) ?_); simp -implicitDefEqProofs (disch := (try simp only [sl]); try omega) only [sm,QJ,Qj,Qi,Qq,QC,bd,look,aput,QB,Qf,ty,↓reduceIte,Nat.reduceEqDiff,Nat.reduceAdd,Nat.reduceSub,Nat.reduceMul,Int.reduceLT,Int.reduceLE,Int.reduceNeg,Int.reduceToNat,reduceCtorEq,Nat.reduceBEq,Nat.reduceBNe,Qk,Qe,Value.cells,am,mm,keep, lv])
  have a2 := e2 _ _ a1
  have x2 := x1.trans e2
  have g2 := got_lt a2
  have x3 : Ext H (H2 ++ [ABlk.own X]) := x2.pushed _
  have a3 : (H2 ++ [ABlk.own X])[H.length]? = some (.own (List.replicate 32 (Value.int .u8 0))) := Ext.push _ _ _ _ a2
  have p3 : (H2 ++ [ABlk.own X])[H2.length]? = some (.own X) := gpush _ _
  have s3 : St (H2.length + 1) (H2 ++ [ABlk.own X]) (.agg X.toArray) ((ps.map (·.2)).take 0).flatten := hst.mono (Ext.push _ _)
  have hv3 := hv.mono x2
  have f3 : Keeps H2.length H2 (H2 ++ [ABlk.own X]) := (Keeps.refl _ _).push (Nat.le_refl _) _
  generalize H2 ++ [ABlk.own X] = H3 at *
  generalize hp : H2.length = p at *
  repeat first | refine Qo ?_ | refine Qn ?_
  refine awp_forK [2, 3, 7, 8] (fun i : Nat × AH × List Value => [(9, I64 i.1)]) (fun i : Nat × AH × List Value => i.2.1) (fun i : Nat × AH × List Value => i.1 ≤ ps.length ∧ Keeps p H2 i.2.1 ∧ i.2.1[p]? = some (.own i.2.2) ∧ St (p + 1) i.2.1 (.agg i.2.2.toArray) ((ps.map (·.2)).take i.1).flatten) (fun i : Nat × AH × List Value => ps.length - i.1) ((0, H3, X)) (⟨by omega, f3, p3, s3⟩) (by repeat first | exact Forgets.nil | refine Forgets.cons (by first | (simp only [look, ↓reduceIte, Nat.reduceEqDiff]; done) | (simp only [look, ↓reduceIte, Nat.reduceEqDiff]; rfl) | simp [look]) ?_) rfl ?_
  rintro ⟨i, H4, Y⟩ ⟨hi, f4, p4, s4⟩
  simp only [] at hi f4 p4 s4 ⊢
  obtain ⟨Y', hY', hY, hYc⟩ := s4.cells
  obtain rfl : Y = Y' := by injection hY' with h; simpa using congrArg Array.toList h
  clear hY'
  have l4 := got_lt p4
  have b4 := AH.cells_own p4
  try simp -implicitDefEqProofs (disch := (try simp only [sl]); try omega) only [sm,QJ,Qj,Qi,Qq,QC,bd,look,aput,QB,Qf,ty,↓reduceIte,Nat.reduceEqDiff,Nat.reduceAdd,Nat.reduceSub,Nat.reduceMul,Int.reduceLT,Int.reduceLE,Int.reduceNeg,Int.reduceToNat,reduceCtorEq,Nat.reduceBEq,Nat.reduceBNe,Qk,Qe,Value.cells,am,mm,keep]
  iterate 1 ((repeat first | refine Qo ?_ | refine Qn ?_); (first | refine Qp (by kernel_rfl) ?_); simp -implicitDefEqProofs (disch := (try simp only [sl]); try omega) only [sm,QJ,Qj,Qi,Qq,QC,bd,look,aput,QB,Qf,QI,abin,anil,ty,↓reduceIte,Nat.reduceEqDiff,Nat.reduceAdd,Nat.reduceSub,Nat.reduceMul,Int.reduceLT,Int.reduceLE,Int.reduceNeg,Int.reduceToNat,reduceCtorEq,Nat.reduceBEq,Nat.reduceBNe,Qk,Qe,Value.cells,am,mm,keep])
  repeat first | refine Qo ?_ | refine Qn ?_
  refine awp_if _ rfl (by simp only [aeval_tmp, look, ↓reduceIte, Nat.reduceEqDiff]; exact rfl) ?_ ?_
  · intro hlt
    try simp only [ge_iff_le, gt_iff_lt, decide_eq_true_eq, decide_eq_false_iff_not, Nat.not_lt, Int.not_lt, Nat.not_le, Int.not_le, Bool.and_eq_true, Bool.or_eq_true, Bool.or_eq_false_iff, bne_iff_ne, ne_eq, beq_iff_eq, bne_eq_false_iff_eq, beq_eq_false_iff_ne, Bool.not_eq_true, Bool.not_eq_false, Bool.not_eq_eq_eq_not, Bool.not_true, Bool.not_false, Nat.not_le, Int.ofNat_lt, Int.ofNat_le, Int.natCast_inj] at hlt
    have hx4 : Ext H2 H4 := f4.ext (by omega) (Ext.refl _)
    obtain ⟨g, o, e, cs, w, b, rfl, hc, hw, hb, hft⟩ := (hv3.mono hx4).get i (by omega)
    iterate 3 ((repeat first | refine Qo ?_ | refine Qn ?_); (first | refine awp_skip ?_ | refine Qp (by kernel_rfl) ?_); simp -implicitDefEqProofs (disch := (try simp only [sl]); try omega) only [sm,QJ,Qj,Qi,Qq,QC,Qz,bd,QF,look,aput,Qm,QB,Qf,Qb,QA,ty,↓reduceIte,Nat.reduceEqDiff,Nat.reduceAdd,Nat.reduceSub,Nat.reduceMul,Int.reduceLT,Int.reduceLE,Int.reduceNeg,Int.reduceToNat,reduceCtorEq,Nat.reduceBEq,Nat.reduceBNe,Qk,Qe,Value.cells,am,mm,keep, hc, hw, b4, hY, hYc])
    have hle := flatten_take_le (ps.map (·.2)) (i + 1)
    rw [hft, List.length_append] at hle
    refine ACalls.mono (write_calls (.agg Y.toArray) w ((ps.map (·.2)).take i).flatten b H4 s4 hb (by unfold allB at hl; omega)) ?_
    rintro w5 H5 ⟨s5, e5⟩
    rw [← hft] at s5
    obtain ⟨Z, rfl, hZ, hZc⟩ := s5.cells
    have p5 := e5 _ _ p4
    have l5 := got_lt p5
    try simp -implicitDefEqProofs (disch := (try simp only [sl]); try omega) only [sm,QJ,Qj,Qi,Qq,QC,Qz,bd,QF,look,aput,Qm,QB,Qf,QA,ty,↓reduceIte,Nat.reduceEqDiff,Nat.reduceAdd,Nat.reduceSub,Nat.reduceMul,Int.reduceLT,Int.reduceLE,Int.reduceNeg,Int.reduceToNat,reduceCtorEq,Nat.reduceBEq,Nat.reduceBNe,Qk,Qe,Value.cells,am,mm,keep, hZc, p5, hY, hZ]
    iterate 1 ((repeat first | refine Qo ?_ | refine Qn ?_); (first | refine Qp (by kernel_rfl) ?_); simp -implicitDefEqProofs (disch := (try simp only [sl]); try omega) only [sm,QJ,Qj,Qi,Qq,QC,bd,look,aput,QB,Qf,QI,abin,anil,ty,↓reduceIte,Nat.reduceEqDiff,Nat.reduceAdd,Nat.reduceSub,Nat.reduceMul,Int.reduceLT,Int.reduceLE,Int.reduceNeg,Int.reduceToNat,reduceCtorEq,Nat.reduceBEq,Nat.reduceBNe,Qk,Qe,Value.cells,am,mm,keep])
    refine ⟨(i + 1, H5.set p (.own Z), Z), ⟨by simp only []; omega, (f4.trans (Keeps.of_ext e5 (by omega))).set (Nat.le_refl _) _, gset H5 _ _ l5, (s5.low (by omega)).set (by omega) _⟩, (by repeat first | exact Forgets.nil | refine Forgets.cons (by first | (simp only [look, ↓reduceIte, Nat.reduceEqDiff]; done) | (simp only [look, ↓reduceIte, Nat.reduceEqDiff]; rfl) | simp [look]) ?_), ?_⟩
    first | omega | exact ⟨rfl, by omega⟩ | exact ⟨rfl, by simp only []; omega⟩ | (simp only []; omega)
  intro hge
  try simp only [ge_iff_le, gt_iff_lt, decide_eq_true_eq, decide_eq_false_iff_not, Nat.not_lt, Int.not_lt, Nat.not_le, Int.not_le, Bool.and_eq_true, Bool.or_eq_true, Bool.or_eq_false_iff, bne_iff_ne, ne_eq, beq_iff_eq, bne_eq_false_iff_eq, beq_eq_false_iff_ne, Bool.not_eq_true, Bool.not_eq_false, Bool.not_eq_eq_eq_not, Bool.not_true, Bool.not_false, Nat.not_le, Int.ofNat_lt, Int.ofNat_le, Int.natCast_inj] at hge
  obtain rfl : i = ps.length := by omega
  rw [List.take_of_length_le (by rw [List.length_map]; omega)] at s4
  have hx4 : Ext H2 H4 := f4.ext (by omega) (Ext.refl _)
  have a4 := hx4 _ _ a2
  iterate 2 ((repeat first | refine Qo ?_ | refine Qn ?_); (first | refine awp_exit ?_ | refine Qp (by kernel_rfl) ?_); simp -implicitDefEqProofs (disch := (try simp only [sl]); try omega) only [sm,QJ,Qj,Qi,Qq,QC,Qz,bd,QF,look,aput,Qm,QB,Qf,QA,ty,↓reduceIte,Nat.reduceEqDiff,Nat.reduceAdd,Nat.reduceSub,Nat.reduceMul,Int.reduceLT,Int.reduceLE,Int.reduceNeg,Int.reduceToNat,reduceCtorEq,Nat.reduceBEq,Nat.reduceBNe,Qk,Qe,Value.cells,am,mm,keep, b4, hY, hYc])
  refine ACalls.mono (sum_calls (.agg Y.toArray) (ps.map (·.2)).flatten H4 s4 (by unfold allB at hl; omega)) ?_
  rintro _ H5 ⟨rfl, e5⟩
  have a5 := e5 _ _ a4
  have hdl := digest_length (ps.map (·.2)).flatten
  have hx5 := (x2.trans hx4).trans e5
  have g5 := got_lt a5
  rw [allB]
  generalize digest (ps.map (·.2)).flatten = dd at *
  try simp -implicitDefEqProofs (disch := (try simp only [sl]); try omega) only [sm,QJ,Qj,Qi,Qq,QC,Qz,bd,QF,look,aput,Qm,QB,Qf,QA,ty,↓reduceIte,Nat.reduceEqDiff,Nat.reduceAdd,Nat.reduceSub,Nat.reduceMul,Int.reduceLT,Int.reduceLE,Int.reduceNeg,Int.reduceToNat,reduceCtorEq,Nat.reduceBEq,Nat.reduceBNe,Qk,Qe,Value.cells,am,mm,keep, a5, hdl]
  first | refine awp_ret ?_ | skip
  show ∃ v, aresults Try.prog Try.f36 _ _ = some v ∧ _
  rw [aresults_1 (r := .cell 2 22) (by kernel_rfl)]
  simp -implicitDefEqProofs (disch := (try simp only [sl]); try omega) only [aresult, Option.some.injEq, exists_eq_left', sm,Qj,Qi,Qq,QC,Qz,bd,QF,look,aput,QB,Qf,QA,ty,↓reduceIte,Nat.reduceEqDiff,Nat.reduceAdd,Nat.reduceSub,Nat.reduceMul,Int.reduceLT,Int.reduceLE,Int.reduceNeg,Int.reduceToNat,reduceCtorEq,Nat.reduceBEq,Nat.reduceBNe,Qk,Qe,Value.cells,am,mm,keep]
  exact (by repeat first | assumption | exact Ext.refl _ | exact Ext.pre (by assumption) | exact Ext.pre (Ext.pre (by assumption)) | exact Ext.pre (Ext.pre (Ext.pre (by assumption))) | exact Ext.pre (Ext.pre (Ext.pre (Ext.pre (by assumption)))) | apply Ext.pushed | refine Ext.both ?_ _ _ | refine Ext.set ?_ _ (by omega))
theorem aeqB (T n : Nat) (hT : Try.prog.underlying T = some (.array n 5)) (hc : Try.prog.cellsOf T = n) (hg : Try.prog.eqGuardType Try.prog.depth T = false) (a b : List UInt8) (ha : a.length = n) (hb : b.length = n) : aeqAgg Try.prog T (a.map U8).toArray (b.map U8).toArray = some (decide (a = b)) :=
  aeq_words (n := n) (e := 5) (k := .u8) hT (by kernel_rfl) (by kernel_rfl) hc hg _ wf8 inj8 _ _ ha hb
/-- '==' of two digests. -/
theorem aeq32 (a b : List UInt8) (ha : a.length = 32) (hb : b.length = 32) : aeqAgg Try.prog 22 (a.map U8).toArray (b.map U8).toArray = some (decide (a = b)) := aeqB 22 32 (by kernel_rfl) (by kernel_rfl) (by kernel_rfl) a b ha hb
theorem one_part {H : AH} {v : Value} {bs : List UInt8} (h : SL H v (bs.map U8)) : Parts (H ++ [.own [v]]) (.slice (some ⟨H.length, 0, none⟩) 1 1) [(v, bs)] := by
  refine ⟨(OS.new (b := 0) (vs := [v]) (Nat.zero_le _) rfl).sl, fun p hp => ?_⟩
  simp only [List.mem_cons, List.not_mem_nil, or_false] at hp
  subst hp
  exact h.mono (Ext.push _ _)
theorem allB_one (v : Value) (bs : List UInt8) : allB [(v, bs)] = bs := by simp [allB]
theorem two_parts {H : AH} {v w : Value} {a b : List UInt8} (h : SL H v (a.map U8)) (k : SL H w (b.map U8)) : Parts (H ++ [.own [v, w]]) (.slice (some ⟨H.length, 0, none⟩) 2 1) [(v, a), (w, b)] := by
  refine ⟨(OS.new (b := 0) (vs := [v, w]) (Nat.zero_le _) rfl).sl, fun p hp => ?_⟩
  simp only [List.mem_cons, List.not_mem_nil, or_false] at hp
  rcases hp with rfl | rfl
  · exact h.mono (Ext.push _ _)
  · exact k.mono (Ext.push _ _)
theorem allB_two (v w : Value) (a b : List UInt8) : allB [(v, a), (w, b)] = a ++ b := by simp [allB]
end Go.Proofs.Ytpiaohajbbdpdaa
