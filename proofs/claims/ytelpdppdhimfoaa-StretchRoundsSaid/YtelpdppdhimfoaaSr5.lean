/- The document's step: a block turns a state. -/
import Derived.Test.YtelpdppdhimfoaaSr4
namespace Go.Proofs.Ytelpdppdhimfoaa
open Go Go.RowKit
set_option linter.unusedSimpArgs false
set_option linter.unusedVariables false
set_option maxRecDepth 4000
theorem be32L_at (bs : List UInt8) (t : Nat) (h : 4 * t + 4 ≤ bs.length) : be32L ((bs.drop (4 * t)).take 4) = be32 (bs.getD (4 * t) 0) (bs.getD (4 * t + 1) 0) (bs.getD (4 * t + 2) 0) (bs.getD (4 * t + 3) 0) := by
  unfold be32L
  simp only [List.getD_eq_getElem?_getD, List.getElem?_take, List.getElem?_drop, Nat.reduceLT, if_true, Nat.add_zero, Nat.zero_lt_succ]
theorem take_getD (l : List UInt32) (t i : Nat) (h : i < t) : (l.take t).getD i 0 = l.getD i 0 := by
  rw [List.getD_eq_getElem?_getD, List.getD_eq_getElem?_getD, List.getElem?_take, if_pos h]
set_option maxHeartbeats 8000000 in
theorem step_calls (vk vs vb : Value) (s : List UInt32) (bs : List UInt8) (H : AH) (hk : SL H vk (constL.map U32)) (hs : SL H vs (s.map U32)) (hb : SL H vb (bs.map U8)) (hsl : s.length = 8) (hbl : bs.length = 64) :
    ACalls Try.prog 52 #[vk, vs, vb] H fun v H' => SL H' v ((blockW s bs).map U32) ∧ Ext H H' := by
  have hB : blockW s bs = addL s (rndsL constL (schedA bs (zw 64) 64) s 64) := rfl
  have hkl : constL.length = 64 := rfl
  rw [hB]
  generalize constL = ks at *
  have hzl := zw_length 64
  generalize zw 64 = z at *
  refine acalls_of_body Try.func52 rfl Try.ntmps52 (by simp) ?_
  simp only [argsT, Nat.reduceAdd]
  -- R0 R1 R2
  iterate 3 ((repeat first | refine awp_seq ?_ | refine awp_block ?_); (first | refine awp_region (by kernel_rfl) ?_); simp -implicitDefEqProofs (disch := (try simp only [sl]); try omega) only [sm, aNext, aSel, aNextL, aNextH, heldC, heldO, heldP, aWanted, isLight, aLight, apure, aread, bd, aload, look, aput, aHeavy, amark, aThen, aInBlock, aconvInt, abinO, abin, anil, aunop, aindexAddr, afieldAddr, afield, apart, aindex, aslice, loN, hiN, aextract, amakeIface, anilCheck, aminmax, amin2, amax2, ty, ↓reduceIte, Nat.reduceEqDiff, Nat.reduceAdd, Nat.reduceSub, Nat.reduceMul, Int.reduceLT, Int.reduceLE, Int.reduceNeg, Int.reduceToNat, reduceCtorEq, Nat.reduceBEq, Nat.reduceBNe, skipped, definite, Value.cells, am, mm, keep])
  repeat first | refine awp_seq ?_ | refine awp_block ?_
  refine awp_forK [0, 1, 2] (fun i : Nat × AH × Value => [(8, I64 i.1), (7, i.2.2)]) (fun i : Nat × AH × Value => i.2.1) (fun i : Nat × AH × Value => i.1 ≤ 64 ∧ Ext H i.2.1 ∧ OS H.length i.2.1 i.2.2 (((schedA bs z i.1).take i.1).map U32)) (fun i : Nat × AH × Value => 64 - i.1) ((0, H, .slice none 0 0)) (⟨by omega, Ext.refl _, OS.nil _ _⟩) (by repeat first | exact Forgets.nil | refine Forgets.cons (by first | (simp only [look, ↓reduceIte, Nat.reduceEqDiff]; done) | (simp only [look, ↓reduceIte, Nat.reduceEqDiff]; rfl) | simp [look]) ?_) rfl ?_
  rintro ⟨t, H1, s1⟩ ⟨ht, e1, o1⟩
  simp only [] at ht e1 o1 ⊢
  have hwl : (schedA bs z t).length = 64 := by rw [schedA_length, hzl]
  have htl : ((schedA bs z t).take t).length = t := by rw [List.length_take]; omega
  try simp -implicitDefEqProofs (disch := (try simp only [sl]); try omega) only [sm, aNext, aSel, aNextL, aNextH, heldC, heldO, heldP, aWanted, isLight, aLight, apure, aread, bd, aload, look, aput, aHeavy, amark, aThen, aInBlock, aconvInt, abinO, abin, anil, aunop, aindexAddr, afieldAddr, afield, apart, aindex, aslice, loN, hiN, aextract, amakeIface, anilCheck, aminmax, amin2, amax2, ty, ↓reduceIte, Nat.reduceEqDiff, Nat.reduceAdd, Nat.reduceSub, Nat.reduceMul, Int.reduceLT, Int.reduceLE, Int.reduceNeg, Int.reduceToNat, reduceCtorEq, Nat.reduceBEq, Nat.reduceBNe, skipped, definite, Value.cells, am, mm, keep]
  -- R3
  iterate 1 ((repeat first | refine awp_seq ?_ | refine awp_block ?_); (first | refine awp_region (by kernel_rfl) ?_); simp -implicitDefEqProofs (disch := (try simp only [sl]); try omega) only [sm, aNext, aSel, aNextL, aNextH, heldC, heldO, heldP, aWanted, isLight, aLight, apure, aread, bd, aload, look, aput, aHeavy, amark, aThen, aInBlock, aconvInt, abinO, abin, anil, aunop, aindexAddr, afieldAddr, afield, apart, aindex, aslice, loN, hiN, aextract, amakeIface, anilCheck, aminmax, amin2, amax2, ty, ↓reduceIte, Nat.reduceEqDiff, Nat.reduceAdd, Nat.reduceSub, Nat.reduceMul, Int.reduceLT, Int.reduceLE, Int.reduceNeg, Int.reduceToNat, reduceCtorEq, Nat.reduceBEq, Nat.reduceBNe, skipped, definite, Value.cells, am, mm, keep])
  repeat first | refine awp_seq ?_ | refine awp_block ?_
  refine awp_if _ rfl (by simp only [aeval_tmp, look, ↓reduceIte, Nat.reduceEqDiff]; exact rfl) ?_ ?_
  · intro hlt
    try simp only [ge_iff_le, gt_iff_lt, decide_eq_true_eq, decide_eq_false_iff_not, Nat.not_lt, Int.not_lt, Nat.not_le, Int.not_le, Bool.and_eq_true, Bool.or_eq_true, Bool.or_eq_false_iff, bne_iff_ne, ne_eq, beq_iff_eq, bne_eq_false_iff_eq, beq_eq_false_iff_ne, Bool.not_eq_true, Bool.not_eq_false, Bool.not_eq_eq_eq_not, Bool.not_true, Bool.not_false, Nat.not_le, Int.ofNat_lt, Int.ofNat_le, Int.natCast_inj] at hlt
    have hst := sched_take bs z t (by omega)
    obtain ⟨g, o, e, cs, rfl, hc, -, -, hi, -⟩ := (hb.mono e1).bytes (by omega)
    obtain ⟨s4, H4, ha, o4, k4⟩ := OS.app1 (P := Try.prog) (t := 87) (tx := 87) (bytes := 4) (c := U32 (nextW bs (schedA bs z t) t)) (by simp only [ty]) (by simp only [ty]) o1 rfl (by rw [List.length_map, htl]; omega) (by decide) e1.length
    have o4' : OS H.length H4 s4 (((schedA bs z (t + 1)).take (t + 1)).map U32) := by rw [hst, List.map_append]; exact o4
    have x4 := k4.ext (Nat.le_refl _) e1
    -- skip R5
    iterate 2 ((repeat first | refine awp_seq ?_ | refine awp_block ?_); (first | refine awp_skip ?_ | refine awp_region (by kernel_rfl) ?_); simp -implicitDefEqProofs (disch := (try simp only [sl]); try omega) only [sm, aNext, aSel, aNextL, aNextH, heldC, heldO, heldP, aWanted, isLight, aLight, apure, aread, bd, aload, look, aput, aHeavy, amark, aThen, aInBlock, aconvInt, abinO, abin, anil, aunop, aindexAddr, afieldAddr, afield, apart, aindex, aslice, loN, hiN, aextract, amakeIface, anilCheck, aminmax, amin2, amax2, ty, ↓reduceIte, Nat.reduceEqDiff, Nat.reduceAdd, Nat.reduceSub, Nat.reduceMul, Int.reduceLT, Int.reduceLE, Int.reduceNeg, Int.reduceToNat, reduceCtorEq, Nat.reduceBEq, Nat.reduceBNe, skipped, definite, Value.cells, am, mm, keep])
    repeat first | refine awp_seq ?_ | refine awp_block ?_
    refine awp_if _ rfl (by simp only [aeval_tmp, look, ↓reduceIte, Nat.reduceEqDiff]; exact rfl) ?_ ?_
    · intro h16
      try simp only [ge_iff_le, gt_iff_lt, decide_eq_true_eq, decide_eq_false_iff_not, Nat.not_lt, Int.not_lt, Nat.not_le, Int.not_le, Bool.and_eq_true, Bool.or_eq_true, Bool.or_eq_false_iff, bne_iff_ne, ne_eq, beq_iff_eq, bne_eq_false_iff_eq, beq_eq_false_iff_ne, Bool.not_eq_true, Bool.not_eq_false, Bool.not_eq_eq_eq_not, Bool.not_true, Bool.not_false, Nat.not_le, Int.ofNat_lt, Int.ofNat_le, Int.natCast_inj] at h16
      have hn : nextW bs (schedA bs z t) t = (bs.getD (4 * t) 0).toUInt32 * 16777216 + (bs.getD (4 * t + 1) 0).toUInt32 * 65536 + (bs.getD (4 * t + 2) 0).toUInt32 * 256 + (bs.getD (4 * t + 3) 0).toUInt32 := by
        rw [nextW, if_pos h16, be32L_at bs t (by omega), word_be]
      rw [hn] at ha
      -- R6 exit R4
      iterate 3 ((repeat first | refine awp_seq ?_ | refine awp_block ?_); (first | refine awp_region_drawC (id := 6) [(0, []), (1, []), (2, []), (3, []), (4, []), (5, []), (6, []), (7, []), (8, []), (9, []), (10, []), (11, []), (12, []), (13, []), (14, []), (15, []), (16, []), (17, []), (18, []), (19, []), (20, []), (21, []), (22, []), (23, []), (24, []), (25, []), (26, []), (27, []), (28, []), (29, []), (30, []), (31, []), (32, []), (33, []), (34, []), (35, []), (36, [])] mixed (by kernel_rfl) ?_ | refine awp_exit ?_ | refine awp_region (by kernel_rfl) ?_); simp -implicitDefEqProofs (disch := (try simp only [sl]); try omega) only [sm, aNext, aSel, aNextL, aNextH, heldC, heldO, heldP, aWanted, isLight, aLight, apure, aread, bd, aload, look, aput, aHeavy, amark, aThen, aInBlock, aconvInt, abinO, abin, anil, aunop, aindexAddr, afieldAddr, afield, apart, aindex, aslice, loN, hiN, aextract, amakeIface, anilCheck, aminmax, amin2, amax2, ty, ↓reduceIte, Nat.reduceEqDiff, Nat.reduceAdd, Nat.reduceSub, Nat.reduceMul, Int.reduceLT, Int.reduceLE, Int.reduceNeg, Int.reduceToNat, reduceCtorEq, Nat.reduceBEq, Nat.reduceBNe, skipped, definite, Value.cells, am, mm, keep, hc, hi, hbl, ha])
      -- loop end
      refine ⟨(t + 1, H4, s4), ⟨by simp only []; omega, x4, o4'⟩, (by repeat first | exact Forgets.nil | refine Forgets.cons (by first | (simp only [look, ↓reduceIte, Nat.reduceEqDiff]; done) | (simp only [look, ↓reduceIte, Nat.reduceEqDiff]; rfl) | simp [look]) ?_), ?_⟩
      first | omega | exact ⟨rfl, by omega⟩ | exact ⟨rfl, by simp only []; omega⟩ | (simp only []; omega)
    intro h16
    try simp only [ge_iff_le, gt_iff_lt, decide_eq_true_eq, decide_eq_false_iff_not, Nat.not_lt, Int.not_lt, Nat.not_le, Int.not_le, Bool.and_eq_true, Bool.or_eq_true, Bool.or_eq_false_iff, bne_iff_ne, ne_eq, beq_iff_eq, bne_eq_false_iff_eq, beq_eq_false_iff_ne, Bool.not_eq_true, Bool.not_eq_false, Bool.not_eq_eq_eq_not, Bool.not_true, Bool.not_false, Nat.not_le, Int.ofNat_lt, Int.ofNat_le, Int.natCast_inj] at h16
    obtain ⟨g1, rfl, hg1, -, -⟩ := o1.at (by rw [List.length_map, htl]; omega)
    rw [List.length_map, htl]
    have hc1 := AH.cells_own hg1
    have hn : nextW bs (schedA bs z t) t = (turnW ((schedA bs z t).getD (t - 2) 0) 17 ^^^ turnW ((schedA bs z t).getD (t - 2) 0) 19 ^^^ (schedA bs z t).getD (t - 2) 0 / 1024) + (schedA bs z t).getD (t - 7) 0 + (turnW ((schedA bs z t).getD (t - 15) 0) 7 ^^^ turnW ((schedA bs z t).getD (t - 15) 0) 18 ^^^ (schedA bs z t).getD (t - 15) 0 / 8) + (schedA bs z t).getD (t - 16) 0 := by
      rw [nextW, if_neg (by omega), sg0, sg1, div8, div1024]
    rw [hn, List.length_map, htl] at ha
    -- extras
    -- skip R7 R8
    iterate 3 ((repeat first | refine awp_seq ?_ | refine awp_block ?_); (first | refine awp_skip ?_ | refine awp_region_drawC (id := 7) [(0, []), (1, []), (2, []), (3, []), (4, []), (5, []), (6, []), (7, []), (8, []), (9, []), (10, []), (11, [])] mixed (by kernel_rfl) ?_ | refine awp_region (by kernel_rfl) ?_); simp -implicitDefEqProofs (disch := (try simp only [sl]); try omega) only [sm, aNext, aSel, aNextL, aNextH, heldC, heldO, heldP, aWanted, isLight, aLight, apure, aread, bd, aload, look, aput, aHeavy, amark, aThen, aInBlock, aconvInt, abinO, abin, anil, aunop, aindexAddr, afieldAddr, afield, apart, aindex, aslice, loN, hiN, aextract, amakeIface, anilCheck, aminmax, amin2, amax2, ty, ↓reduceIte, Nat.reduceEqDiff, Nat.reduceAdd, Nat.reduceSub, Nat.reduceMul, Int.reduceLT, Int.reduceLE, Int.reduceNeg, Int.reduceToNat, reduceCtorEq, Nat.reduceBEq, Nat.reduceBNe, skipped, definite, Value.cells, am, mm, keep, hc1, htl, take_getD])
    -- calls carlingref01.Turn, carlingref01.Turn
    refine ACalls.mono (srefturn_calls ((schedA bs z t).getD (t - 15) 0) 7 _ (by omega) (by omega)) ?_
    rintro _ _ ⟨rfl, hHH⟩
    rw [hHH]
    clear hHH
    simp -implicitDefEqProofs (disch := (try simp only [sl]); try omega) only [sm, aNext, aSel, aNextL, aNextH, heldC, heldO, heldP, aWanted, isLight, aLight, apure, aread, bd, aload, look, aput, aHeavy, amark, aThen, aInBlock, aconvInt, abinO, abin, anil, aunop, aindexAddr, afieldAddr, afield, apart, aindex, aslice, loN, hiN, aextract, amakeIface, anilCheck, aminmax, amin2, amax2, ty, ↓reduceIte, Nat.reduceEqDiff, Nat.reduceAdd, Nat.reduceSub, Nat.reduceMul, Int.reduceLT, Int.reduceLE, Int.reduceNeg, Int.reduceToNat, reduceCtorEq, Nat.reduceBEq, Nat.reduceBNe, skipped, definite, Value.cells, am, mm, keep, hc1, htl, take_getD]
    refine ACalls.mono (srefturn_calls ((schedA bs z t).getD (t - 15) 0) 18 _ (by omega) (by omega)) ?_
    rintro _ _ ⟨rfl, hHH⟩
    rw [hHH]
    clear hHH
    simp -implicitDefEqProofs (disch := (try simp only [sl]); try omega) only [sm, aNext, aSel, aNextL, aNextH, heldC, heldO, heldP, aWanted, isLight, aLight, apure, aread, bd, aload, look, aput, aHeavy, amark, aThen, aInBlock, aconvInt, abinO, abin, anil, aunop, aindexAddr, afieldAddr, afield, apart, aindex, aslice, loN, hiN, aextract, amakeIface, anilCheck, aminmax, amin2, amax2, ty, ↓reduceIte, Nat.reduceEqDiff, Nat.reduceAdd, Nat.reduceSub, Nat.reduceMul, Int.reduceLT, Int.reduceLE, Int.reduceNeg, Int.reduceToNat, reduceCtorEq, Nat.reduceBEq, Nat.reduceBNe, skipped, definite, Value.cells, am, mm, keep, hc1, htl, take_getD]
    -- R9
    iterate 1 ((repeat first | refine awp_seq ?_ | refine awp_block ?_); (first | refine awp_region (by kernel_rfl) ?_); simp -implicitDefEqProofs (disch := (try simp only [sl]); try omega) only [sm, aNext, aSel, aNextL, aNextH, heldC, heldO, heldP, aWanted, isLight, aLight, apure, aread, bd, aload, look, aput, aHeavy, amark, aThen, aInBlock, aconvInt, abinO, abin, anil, aunop, aindexAddr, afieldAddr, afield, apart, aindex, aslice, loN, hiN, aextract, amakeIface, anilCheck, aminmax, amin2, amax2, ty, ↓reduceIte, Nat.reduceEqDiff, Nat.reduceAdd, Nat.reduceSub, Nat.reduceMul, Int.reduceLT, Int.reduceLE, Int.reduceNeg, Int.reduceToNat, reduceCtorEq, Nat.reduceBEq, Nat.reduceBNe, skipped, definite, Value.cells, am, mm, keep, hc1, htl, take_getD])
    -- calls carlingref01.Turn, carlingref01.Turn
    refine ACalls.mono (srefturn_calls ((schedA bs z t).getD (t - 2) 0) 17 _ (by omega) (by omega)) ?_
    rintro _ _ ⟨rfl, hHH⟩
    rw [hHH]
    clear hHH
    simp -implicitDefEqProofs (disch := (try simp only [sl]); try omega) only [sm, aNext, aSel, aNextL, aNextH, heldC, heldO, heldP, aWanted, isLight, aLight, apure, aread, bd, aload, look, aput, aHeavy, amark, aThen, aInBlock, aconvInt, abinO, abin, anil, aunop, aindexAddr, afieldAddr, afield, apart, aindex, aslice, loN, hiN, aextract, amakeIface, anilCheck, aminmax, amin2, amax2, ty, ↓reduceIte, Nat.reduceEqDiff, Nat.reduceAdd, Nat.reduceSub, Nat.reduceMul, Int.reduceLT, Int.reduceLE, Int.reduceNeg, Int.reduceToNat, reduceCtorEq, Nat.reduceBEq, Nat.reduceBNe, skipped, definite, Value.cells, am, mm, keep, hc1, htl, take_getD]
    refine ACalls.mono (srefturn_calls ((schedA bs z t).getD (t - 2) 0) 19 _ (by omega) (by omega)) ?_
    rintro _ _ ⟨rfl, hHH⟩
    rw [hHH]
    clear hHH
    simp -implicitDefEqProofs (disch := (try simp only [sl]); try omega) only [sm, aNext, aSel, aNextL, aNextH, heldC, heldO, heldP, aWanted, isLight, aLight, apure, aread, bd, aload, look, aput, aHeavy, amark, aThen, aInBlock, aconvInt, abinO, abin, anil, aunop, aindexAddr, afieldAddr, afield, apart, aindex, aslice, loN, hiN, aextract, amakeIface, anilCheck, aminmax, amin2, amax2, ty, ↓reduceIte, Nat.reduceEqDiff, Nat.reduceAdd, Nat.reduceSub, Nat.reduceMul, Int.reduceLT, Int.reduceLE, Int.reduceNeg, Int.reduceToNat, reduceCtorEq, Nat.reduceBEq, Nat.reduceBNe, skipped, definite, Value.cells, am, mm, keep, hc1, htl, take_getD]
    -- R10 R4
    iterate 2 ((repeat first | refine awp_seq ?_ | refine awp_block ?_); (first | refine awp_region_drawC (id := 10) [(0, []), (1, []), (2, []), (3, []), (4, []), (5, []), (6, []), (7, []), (8, []), (9, []), (10, []), (11, []), (12, []), (13, []), (14, []), (15, []), (16, []), (17, []), (18, [])] mixed (by kernel_rfl) ?_ | refine awp_region (by kernel_rfl) ?_); simp -implicitDefEqProofs (disch := (try simp only [sl]); try omega) only [sm, aNext, aSel, aNextL, aNextH, heldC, heldO, heldP, aWanted, isLight, aLight, apure, aread, bd, aload, look, aput, aHeavy, amark, aThen, aInBlock, aconvInt, abinO, abin, anil, aunop, aindexAddr, afieldAddr, afield, apart, aindex, aslice, loN, hiN, aextract, amakeIface, anilCheck, aminmax, amin2, amax2, ty, ↓reduceIte, Nat.reduceEqDiff, Nat.reduceAdd, Nat.reduceSub, Nat.reduceMul, Int.reduceLT, Int.reduceLE, Int.reduceNeg, Int.reduceToNat, reduceCtorEq, Nat.reduceBEq, Nat.reduceBNe, skipped, definite, Value.cells, am, mm, keep, hc1, htl, take_getD, ha])
    -- loop end
    refine ⟨(t + 1, H4, s4), ⟨by simp only []; omega, x4, o4'⟩, (by repeat first | exact Forgets.nil | refine Forgets.cons (by first | (simp only [look, ↓reduceIte, Nat.reduceEqDiff]; done) | (simp only [look, ↓reduceIte, Nat.reduceEqDiff]; rfl) | simp [look]) ?_), ?_⟩
    first | omega | exact ⟨rfl, by omega⟩ | exact ⟨rfl, by simp only []; omega⟩ | (simp only []; omega)
  intro hge
  try simp only [ge_iff_le, gt_iff_lt, decide_eq_true_eq, decide_eq_false_iff_not, Nat.not_lt, Int.not_lt, Nat.not_le, Int.not_le, Bool.and_eq_true, Bool.or_eq_true, Bool.or_eq_false_iff, bne_iff_ne, ne_eq, beq_iff_eq, bne_eq_false_iff_eq, beq_eq_false_iff_ne, Bool.not_eq_true, Bool.not_eq_false, Bool.not_eq_eq_eq_not, Bool.not_true, Bool.not_false, Nat.not_le, Int.ofNat_lt, Int.ofNat_le, Int.natCast_inj] at hge
  obtain rfl : t = 64 := by omega
  rw [List.take_of_length_le (by omega)] at o1
  clear htl
  generalize schedA bs z 64 = ws at *
  have hs1 := hs.mono e1
  obtain ⟨s4, H4, ha, o4, k4⟩ := OS.app (P := Try.prog) (t := 87) (tx := 87) (bytes := 4) (by simp only [ty]) (by simp only [ty]) (OS.nil H1.length H1) hs1 (all32 _) (by rw [List.length_nil, List.length_map]; omega) (by decide) (Nat.le_refl _)
  rw [List.nil_append] at o4
  -- extras
  -- exit R11 R12
  iterate 3 ((repeat first | refine awp_seq ?_ | refine awp_block ?_); (first | refine awp_exit ?_ | refine awp_region (by kernel_rfl) ?_); simp -implicitDefEqProofs (disch := (try simp only [sl]); try omega) only [sm, aNext, aSel, aNextL, aNextH, heldC, heldO, heldP, aWanted, isLight, aLight, apure, aread, bd, aload, look, aput, aHeavy, amark, aThen, aInBlock, aconvInt, abinO, abin, anil, aunop, aindexAddr, afieldAddr, afield, apart, aindex, aslice, loN, hiN, aextract, amakeIface, anilCheck, aminmax, amin2, amax2, ty, ↓reduceIte, Nat.reduceEqDiff, Nat.reduceAdd, Nat.reduceSub, Nat.reduceMul, Int.reduceLT, Int.reduceLE, Int.reduceNeg, Int.reduceToNat, reduceCtorEq, Nat.reduceBEq, Nat.reduceBNe, skipped, definite, Value.cells, am, mm, keep, ha])
  have e4 := k4.ext e1.length e1
  have o1' := o1.sl.mono (k4.ext (Nat.le_refl _) (Ext.refl _))
  clear ha k4 o1 hs1
  have o4 := o4.sl
  repeat first | refine awp_seq ?_ | refine awp_block ?_
  refine awp_forK [0, 1, 7] (fun i : Nat × AH × Value => [(14, I64 i.1), (13, i.2.2)]) (fun i : Nat × AH × Value => i.2.1) (fun i : Nat × AH × Value => i.1 ≤ 64 ∧ Ext H4 i.2.1 ∧ SL i.2.1 i.2.2 ((rndsL ks ws s i.1).map U32)) (fun i : Nat × AH × Value => 64 - i.1) ((0, H4, s4)) (⟨by omega, Ext.refl _, o4⟩) (by repeat first | exact Forgets.nil | refine Forgets.cons (by first | (simp only [look, ↓reduceIte, Nat.reduceEqDiff]; done) | (simp only [look, ↓reduceIte, Nat.reduceEqDiff]; rfl) | simp [look]) ?_) rfl ?_
  rintro ⟨t, H5, s5⟩ ⟨ht, e5, o5⟩
  simp only [] at ht e5 o5 ⊢
  have hyl := rndsL_length ks ws s hsl t
  try simp -implicitDefEqProofs (disch := (try simp only [sl]); try omega) only [sm, aNext, aSel, aNextL, aNextH, heldC, heldO, heldP, aWanted, isLight, aLight, apure, aread, bd, aload, look, aput, aHeavy, amark, aThen, aInBlock, aconvInt, abinO, abin, anil, aunop, aindexAddr, afieldAddr, afield, apart, aindex, aslice, loN, hiN, aextract, amakeIface, anilCheck, aminmax, amin2, amax2, ty, ↓reduceIte, Nat.reduceEqDiff, Nat.reduceAdd, Nat.reduceSub, Nat.reduceMul, Int.reduceLT, Int.reduceLE, Int.reduceNeg, Int.reduceToNat, reduceCtorEq, Nat.reduceBEq, Nat.reduceBNe, skipped, definite, Value.cells, am, mm, keep]
  -- R13
  iterate 1 ((repeat first | refine awp_seq ?_ | refine awp_block ?_); (first | refine awp_region (by kernel_rfl) ?_); simp -implicitDefEqProofs (disch := (try simp only [sl]); try omega) only [sm, aNext, aSel, aNextL, aNextH, heldC, heldO, heldP, aWanted, isLight, aLight, apure, aread, bd, aload, look, aput, aHeavy, amark, aThen, aInBlock, aconvInt, abinO, abin, anil, aunop, aindexAddr, afieldAddr, afield, apart, aindex, aslice, loN, hiN, aextract, amakeIface, anilCheck, aminmax, amin2, amax2, ty, ↓reduceIte, Nat.reduceEqDiff, Nat.reduceAdd, Nat.reduceSub, Nat.reduceMul, Int.reduceLT, Int.reduceLE, Int.reduceNeg, Int.reduceToNat, reduceCtorEq, Nat.reduceBEq, Nat.reduceBNe, skipped, definite, Value.cells, am, mm, keep])
  repeat first | refine awp_seq ?_ | refine awp_block ?_
  refine awp_if _ rfl (by simp only [aeval_tmp, look, ↓reduceIte, Nat.reduceEqDiff]; exact rfl) ?_ ?_
  · intro hlt
    try simp only [ge_iff_le, gt_iff_lt, decide_eq_true_eq, decide_eq_false_iff_not, Nat.not_lt, Int.not_lt, Nat.not_le, Int.not_le, Bool.and_eq_true, Bool.or_eq_true, Bool.or_eq_false_iff, bne_iff_ne, ne_eq, beq_iff_eq, bne_eq_false_iff_eq, beq_eq_false_iff_ne, Bool.not_eq_true, Bool.not_eq_false, Bool.not_eq_eq_eq_not, Bool.not_true, Bool.not_false, Nat.not_le, Int.ofNat_lt, Int.ofNat_le, Int.natCast_inj] at hlt
    have hnx : rndsL ks ws s (t + 1) = rndL (ks.getD t 0) (ws.getD t 0) (rndsL ks ws s t) := rfl
    obtain ⟨x0, x1, x2, x3, x4, x5, x6, x7, hy⟩ := eight _ hyl
    rw [hy] at hnx o5
    obtain ⟨g1, o1, d1, cs1, rfl, hc1, -, -, hi1, -⟩ := o5.at (by simp)
    obtain ⟨g2, o2, d2, cs2, rfl, hc2, -, -, hi2, -⟩ := (hk.mono (e4.trans e5)).at (by rw [List.length_map]; omega)
    obtain ⟨g3, o3, d3, cs3, rfl, hc3, -, -, hi3, -⟩ := (o1'.mono e5).at (by rw [List.length_map]; omega)
    rw [List.length_map] at hi2 hi3
    have j2 := hi2 t (by omega)
    have j3 := hi3 t (by omega)
    rw [mg32 _ _ (by omega)] at j2 j3
    have i0 := hi1 0 (by simp)
    have i1 := hi1 1 (by simp)
    have i2 := hi1 2 (by simp)
    have i3 := hi1 3 (by simp)
    have i4 := hi1 4 (by simp)
    have i5 := hi1 5 (by simp)
    have i6 := hi1 6 (by simp)
    have i7 := hi1 7 (by simp)
    simp only [List.map_cons, List.map_nil, List.getElem?_cons_zero, List.getElem?_cons_succ, Nat.add_zero] at i0 i1 i2 i3 i4 i5 i6 i7
    clear hi1 hi2 hi3
    -- extras
    -- skip R15 R16
    iterate 3 ((repeat first | refine awp_seq ?_ | refine awp_block ?_); (first | refine awp_skip ?_ | refine awp_region_drawC (id := 15) [(0, []), (1, []), (2, []), (3, []), (4, []), (5, []), (6, []), (7, [])] mixed (by kernel_rfl) ?_ | refine awp_region_drawC (id := 16) [(0, []), (1, []), (2, []), (3, []), (5, []), (8, []), (12, []), (13, []), (14, []), (15, []), (16, []), (17, []), (18, []), (19, []), (20, []), (21, []), (22, []), (23, []), (25, []), (26, []), (27, []), (28, []), (30, []), (31, []), (32, []), (33, []), (4, [2, 15, 21, 28, 33]), (6, [2, 15, 21, 28, 33]), (7, []), (9, [2, 15, 21, 28, 33]), (10, []), (11, []), (24, []), (29, []), (34, []), (35, [])] mixed (by kernel_rfl) ?_); simp -implicitDefEqProofs (disch := (try simp only [sl]); try omega) only [sm, aNext, aSel, aNextL, aNextH, heldC, heldO, heldP, aWanted, isLight, aLight, apure, aread, bd, aload, look, aput, aHeavy, amark, aThen, aInBlock, aconvInt, abinO, abin, anil, aunop, aindexAddr, afieldAddr, afield, apart, aindex, aslice, loN, hiN, aextract, amakeIface, anilCheck, aminmax, amin2, amax2, ty, ↓reduceIte, Nat.reduceEqDiff, Nat.reduceAdd, Nat.reduceSub, Nat.reduceMul, Int.reduceLT, Int.reduceLE, Int.reduceNeg, Int.reduceToNat, reduceCtorEq, Nat.reduceBEq, Nat.reduceBNe, skipped, definite, Value.cells, am, mm, keep, hc1, hc2, hc3, j2, j3, i0, i1, i2, i3, i4, i5, i6, i7, hkl, hwl, List.length_map, ones_sub])
    -- calls carlingref01.Turn, carlingref01.Turn, carlingref01.Turn
    refine ACalls.mono (srefturn_calls x4 6 _ (by omega) (by omega)) ?_
    rintro _ _ ⟨rfl, hHH⟩
    rw [hHH]
    clear hHH
    simp -implicitDefEqProofs (disch := (try simp only [sl]); try omega) only [sm, aNext, aSel, aNextL, aNextH, heldC, heldO, heldP, aWanted, isLight, aLight, apure, aread, bd, aload, look, aput, aHeavy, amark, aThen, aInBlock, aconvInt, abinO, abin, anil, aunop, aindexAddr, afieldAddr, afield, apart, aindex, aslice, loN, hiN, aextract, amakeIface, anilCheck, aminmax, amin2, amax2, ty, ↓reduceIte, Nat.reduceEqDiff, Nat.reduceAdd, Nat.reduceSub, Nat.reduceMul, Int.reduceLT, Int.reduceLE, Int.reduceNeg, Int.reduceToNat, reduceCtorEq, Nat.reduceBEq, Nat.reduceBNe, skipped, definite, Value.cells, am, mm, keep, hc1, hc2, hc3, j2, j3, i0, i1, i2, i3, i4, i5, i6, i7, hkl, hwl, List.length_map, ones_sub]
    refine ACalls.mono (srefturn_calls x4 11 _ (by omega) (by omega)) ?_
    rintro _ _ ⟨rfl, hHH⟩
    rw [hHH]
    clear hHH
    simp -implicitDefEqProofs (disch := (try simp only [sl]); try omega) only [sm, aNext, aSel, aNextL, aNextH, heldC, heldO, heldP, aWanted, isLight, aLight, apure, aread, bd, aload, look, aput, aHeavy, amark, aThen, aInBlock, aconvInt, abinO, abin, anil, aunop, aindexAddr, afieldAddr, afield, apart, aindex, aslice, loN, hiN, aextract, amakeIface, anilCheck, aminmax, amin2, amax2, ty, ↓reduceIte, Nat.reduceEqDiff, Nat.reduceAdd, Nat.reduceSub, Nat.reduceMul, Int.reduceLT, Int.reduceLE, Int.reduceNeg, Int.reduceToNat, reduceCtorEq, Nat.reduceBEq, Nat.reduceBNe, skipped, definite, Value.cells, am, mm, keep, hc1, hc2, hc3, j2, j3, i0, i1, i2, i3, i4, i5, i6, i7, hkl, hwl, List.length_map, ones_sub]
    refine ACalls.mono (srefturn_calls x4 25 _ (by omega) (by omega)) ?_
    rintro _ _ ⟨rfl, hHH⟩
    rw [hHH]
    clear hHH
    simp -implicitDefEqProofs (disch := (try simp only [sl]); try omega) only [sm, aNext, aSel, aNextL, aNextH, heldC, heldO, heldP, aWanted, isLight, aLight, apure, aread, bd, aload, look, aput, aHeavy, amark, aThen, aInBlock, aconvInt, abinO, abin, anil, aunop, aindexAddr, afieldAddr, afield, apart, aindex, aslice, loN, hiN, aextract, amakeIface, anilCheck, aminmax, amin2, amax2, ty, ↓reduceIte, Nat.reduceEqDiff, Nat.reduceAdd, Nat.reduceSub, Nat.reduceMul, Int.reduceLT, Int.reduceLE, Int.reduceNeg, Int.reduceToNat, reduceCtorEq, Nat.reduceBEq, Nat.reduceBNe, skipped, definite, Value.cells, am, mm, keep, hc1, hc2, hc3, j2, j3, i0, i1, i2, i3, i4, i5, i6, i7, hkl, hwl, List.length_map, ones_sub]
    -- R17
    iterate 1 ((repeat first | refine awp_seq ?_ | refine awp_block ?_); (first | refine awp_region_drawC (id := 17) [(0, []), (2, []), (5, []), (8, []), (9, []), (10, []), (11, []), (12, []), (13, []), (14, []), (15, []), (16, []), (17, []), (18, []), (19, []), (20, []), (21, []), (22, []), (23, []), (24, []), (25, []), (26, []), (1, [11, 16, 21, 24]), (3, [11, 16, 21, 24]), (4, []), (6, [11, 16, 21, 24]), (7, []), (27, []), (28, [])] mixed (by kernel_rfl) ?_); simp -implicitDefEqProofs (disch := (try simp only [sl]); try omega) only [sm, aNext, aSel, aNextL, aNextH, heldC, heldO, heldP, aWanted, isLight, aLight, apure, aread, bd, aload, look, aput, aHeavy, amark, aThen, aInBlock, aconvInt, abinO, abin, anil, aunop, aindexAddr, afieldAddr, afield, apart, aindex, aslice, loN, hiN, aextract, amakeIface, anilCheck, aminmax, amin2, amax2, ty, ↓reduceIte, Nat.reduceEqDiff, Nat.reduceAdd, Nat.reduceSub, Nat.reduceMul, Int.reduceLT, Int.reduceLE, Int.reduceNeg, Int.reduceToNat, reduceCtorEq, Nat.reduceBEq, Nat.reduceBNe, skipped, definite, Value.cells, am, mm, keep, hc1, hc2, hc3, j2, j3, i0, i1, i2, i3, i4, i5, i6, i7, hkl, hwl, List.length_map, ones_sub])
    -- calls carlingref01.Turn, carlingref01.Turn, carlingref01.Turn
    refine ACalls.mono (srefturn_calls x0 2 _ (by omega) (by omega)) ?_
    rintro _ _ ⟨rfl, hHH⟩
    rw [hHH]
    clear hHH
    simp -implicitDefEqProofs (disch := (try simp only [sl]); try omega) only [sm, aNext, aSel, aNextL, aNextH, heldC, heldO, heldP, aWanted, isLight, aLight, apure, aread, bd, aload, look, aput, aHeavy, amark, aThen, aInBlock, aconvInt, abinO, abin, anil, aunop, aindexAddr, afieldAddr, afield, apart, aindex, aslice, loN, hiN, aextract, amakeIface, anilCheck, aminmax, amin2, amax2, ty, ↓reduceIte, Nat.reduceEqDiff, Nat.reduceAdd, Nat.reduceSub, Nat.reduceMul, Int.reduceLT, Int.reduceLE, Int.reduceNeg, Int.reduceToNat, reduceCtorEq, Nat.reduceBEq, Nat.reduceBNe, skipped, definite, Value.cells, am, mm, keep, hc1, hc2, hc3, j2, j3, i0, i1, i2, i3, i4, i5, i6, i7, hkl, hwl, List.length_map, ones_sub]
    refine ACalls.mono (srefturn_calls x0 13 _ (by omega) (by omega)) ?_
    rintro _ _ ⟨rfl, hHH⟩
    rw [hHH]
    clear hHH
    simp -implicitDefEqProofs (disch := (try simp only [sl]); try omega) only [sm, aNext, aSel, aNextL, aNextH, heldC, heldO, heldP, aWanted, isLight, aLight, apure, aread, bd, aload, look, aput, aHeavy, amark, aThen, aInBlock, aconvInt, abinO, abin, anil, aunop, aindexAddr, afieldAddr, afield, apart, aindex, aslice, loN, hiN, aextract, amakeIface, anilCheck, aminmax, amin2, amax2, ty, ↓reduceIte, Nat.reduceEqDiff, Nat.reduceAdd, Nat.reduceSub, Nat.reduceMul, Int.reduceLT, Int.reduceLE, Int.reduceNeg, Int.reduceToNat, reduceCtorEq, Nat.reduceBEq, Nat.reduceBNe, skipped, definite, Value.cells, am, mm, keep, hc1, hc2, hc3, j2, j3, i0, i1, i2, i3, i4, i5, i6, i7, hkl, hwl, List.length_map, ones_sub]
    refine ACalls.mono (srefturn_calls x0 22 _ (by omega) (by omega)) ?_
    rintro _ _ ⟨rfl, hHH⟩
    rw [hHH]
    clear hHH
    simp -implicitDefEqProofs (disch := (try simp only [sl]); try omega) only [sm, aNext, aSel, aNextL, aNextH, heldC, heldO, heldP, aWanted, isLight, aLight, apure, aread, bd, aload, look, aput, aHeavy, amark, aThen, aInBlock, aconvInt, abinO, abin, anil, aunop, aindexAddr, afieldAddr, afield, apart, aindex, aslice, loN, hiN, aextract, amakeIface, anilCheck, aminmax, amin2, amax2, ty, ↓reduceIte, Nat.reduceEqDiff, Nat.reduceAdd, Nat.reduceSub, Nat.reduceMul, Int.reduceLT, Int.reduceLE, Int.reduceNeg, Int.reduceToNat, reduceCtorEq, Nat.reduceBEq, Nat.reduceBNe, skipped, definite, Value.cells, am, mm, keep, hc1, hc2, hc3, j2, j3, i0, i1, i2, i3, i4, i5, i6, i7, hkl, hwl, List.length_map, ones_sub]
    -- R18 R14
    iterate 2 ((repeat first | refine awp_seq ?_ | refine awp_block ?_); (first | refine awp_region_drawC (id := 18) [(0, []), (1, []), (2, []), (3, []), (4, []), (5, []), (6, []), (7, []), (8, []), (9, []), (10, []), (11, []), (12, []), (13, []), (14, []), (15, []), (16, []), (17, []), (18, []), (19, []), (20, []), (21, []), (22, []), (23, []), (24, []), (25, []), (26, []), (27, [])] mixed (by kernel_rfl) ?_ | refine awp_region (by kernel_rfl) ?_); simp -implicitDefEqProofs (disch := (try simp only [sl]); try omega) only [sm, aNext, aSel, aNextL, aNextH, heldC, heldO, heldP, aWanted, isLight, aLight, apure, aread, bd, aload, look, aput, aHeavy, amark, aThen, aInBlock, aconvInt, abinO, abin, anil, aunop, aindexAddr, afieldAddr, afield, apart, aindex, aslice, loN, hiN, aextract, amakeIface, anilCheck, aminmax, amin2, amax2, ty, ↓reduceIte, Nat.reduceEqDiff, Nat.reduceAdd, Nat.reduceSub, Nat.reduceMul, Int.reduceLT, Int.reduceLE, Int.reduceNeg, Int.reduceToNat, reduceCtorEq, Nat.reduceBEq, Nat.reduceBNe, skipped, definite, Value.cells, am, mm, keep, hc1, hc2, hc3, j2, j3, i0, i1, i2, i3, i4, i5, i6, i7, hkl, hwl, List.length_map, ones_sub])
    -- loop end
    refine ⟨(t + 1, H5 ++ [.own ((rndL (ks.getD t 0) (ws.getD t 0) [x0, x1, x2, x3, x4, x5, x6, x7]).map U32)], .slice (some ⟨H5.length, 0, none⟩) 8 1), ⟨by simp only []; omega, e5.pushed _, by simp only []; rw [hnx]; exact (OS.new (b := 0) (Nat.zero_le _) rfl).sl⟩, (by repeat first | exact Forgets.nil | refine Forgets.cons (by first | (simp only [look, ↓reduceIte, Nat.reduceEqDiff]; done) | (simp only [look, ↓reduceIte, Nat.reduceEqDiff]; rfl) | simp [look]) ?_), rfl, by simp only []; omega⟩
  intro hge
  try simp only [ge_iff_le, gt_iff_lt, decide_eq_true_eq, decide_eq_false_iff_not, Nat.not_lt, Int.not_lt, Nat.not_le, Int.not_le, Bool.and_eq_true, Bool.or_eq_true, Bool.or_eq_false_iff, bne_iff_ne, ne_eq, beq_iff_eq, bne_eq_false_iff_eq, beq_eq_false_iff_ne, Bool.not_eq_true, Bool.not_eq_false, Bool.not_eq_eq_eq_not, Bool.not_true, Bool.not_false, Nat.not_le, Int.ofNat_lt, Int.ofNat_le, Int.natCast_inj] at hge
  obtain rfl : t = 64 := by omega
  -- extras
  -- exit R19 R20
  iterate 3 ((repeat first | refine awp_seq ?_ | refine awp_block ?_); (first | refine awp_exit ?_ | refine awp_region (by kernel_rfl) ?_); simp -implicitDefEqProofs (disch := (try simp only [sl]); try omega) only [sm, aNext, aSel, aNextL, aNextH, heldC, heldO, heldP, aWanted, isLight, aLight, apure, aread, bd, aload, look, aput, aHeavy, amark, aThen, aInBlock, aconvInt, abinO, abin, anil, aunop, aindexAddr, afieldAddr, afield, apart, aindex, aslice, loN, hiN, aextract, amakeIface, anilCheck, aminmax, amin2, amax2, ty, ↓reduceIte, Nat.reduceEqDiff, Nat.reduceAdd, Nat.reduceSub, Nat.reduceMul, Int.reduceLT, Int.reduceLE, Int.reduceNeg, Int.reduceToNat, reduceCtorEq, Nat.reduceBEq, Nat.reduceBNe, skipped, definite, Value.cells, am, mm, keep])
  generalize rndsL ks ws s 64 = xs at *
  repeat first | refine awp_seq ?_ | refine awp_block ?_
  refine awp_forK [1, 13] (fun i : Nat × AH × Value => [(20, I64 i.1), (19, i.2.2)]) (fun i : Nat × AH × Value => i.2.1) (fun i : Nat × AH × Value => i.1 ≤ 8 ∧ Ext H5 i.2.1 ∧ OS H5.length i.2.1 i.2.2 (((List.range i.1).map fun i => s.getD i 0 + xs.getD i 0).map U32)) (fun i : Nat × AH × Value => 8 - i.1) ((0, H5, .slice none 0 0)) (⟨by omega, Ext.refl _, OS.nil _ _⟩) (by repeat first | exact Forgets.nil | refine Forgets.cons (by first | (simp only [look, ↓reduceIte, Nat.reduceEqDiff]; done) | (simp only [look, ↓reduceIte, Nat.reduceEqDiff]; rfl) | simp [look]) ?_) rfl ?_
  rintro ⟨i, H6, s6⟩ ⟨hi, e6, o6⟩
  simp only [] at hi e6 o6 ⊢
  have e46 := e4.trans (e5.trans e6)
  try simp -implicitDefEqProofs (disch := (try simp only [sl]); try omega) only [sm, aNext, aSel, aNextL, aNextH, heldC, heldO, heldP, aWanted, isLight, aLight, apure, aread, bd, aload, look, aput, aHeavy, amark, aThen, aInBlock, aconvInt, abinO, abin, anil, aunop, aindexAddr, afieldAddr, afield, apart, aindex, aslice, loN, hiN, aextract, amakeIface, anilCheck, aminmax, amin2, amax2, ty, ↓reduceIte, Nat.reduceEqDiff, Nat.reduceAdd, Nat.reduceSub, Nat.reduceMul, Int.reduceLT, Int.reduceLE, Int.reduceNeg, Int.reduceToNat, reduceCtorEq, Nat.reduceBEq, Nat.reduceBNe, skipped, definite, Value.cells, am, mm, keep]
  -- R21
  iterate 1 ((repeat first | refine awp_seq ?_ | refine awp_block ?_); (first | refine awp_region (by kernel_rfl) ?_); simp -implicitDefEqProofs (disch := (try simp only [sl]); try omega) only [sm, aNext, aSel, aNextL, aNextH, heldC, heldO, heldP, aWanted, isLight, aLight, apure, aread, bd, aload, look, aput, aHeavy, amark, aThen, aInBlock, aconvInt, abinO, abin, anil, aunop, aindexAddr, afieldAddr, afield, apart, aindex, aslice, loN, hiN, aextract, amakeIface, anilCheck, aminmax, amin2, amax2, ty, ↓reduceIte, Nat.reduceEqDiff, Nat.reduceAdd, Nat.reduceSub, Nat.reduceMul, Int.reduceLT, Int.reduceLE, Int.reduceNeg, Int.reduceToNat, reduceCtorEq, Nat.reduceBEq, Nat.reduceBNe, skipped, definite, Value.cells, am, mm, keep])
  repeat first | refine awp_seq ?_ | refine awp_block ?_
  refine awp_if _ rfl (by simp only [aeval_tmp, look, ↓reduceIte, Nat.reduceEqDiff]; exact rfl) ?_ ?_
  · intro hlt
    try simp only [ge_iff_le, gt_iff_lt, decide_eq_true_eq, decide_eq_false_iff_not, Nat.not_lt, Int.not_lt, Nat.not_le, Int.not_le, Bool.and_eq_true, Bool.or_eq_true, Bool.or_eq_false_iff, bne_iff_ne, ne_eq, beq_iff_eq, bne_eq_false_iff_eq, beq_eq_false_iff_ne, Bool.not_eq_true, Bool.not_eq_false, Bool.not_eq_eq_eq_not, Bool.not_true, Bool.not_false, Nat.not_le, Int.ofNat_lt, Int.ofNat_le, Int.natCast_inj] at hlt
    obtain ⟨g1, o1, d1, cs1, rfl, hc1, -, -, hi1, -⟩ := (o5.mono e6).at (by rw [List.length_map]; omega)
    obtain ⟨g2, o2, d2, cs2, rfl, hc2, -, -, hi2, -⟩ := (hs.mono e46).at (by rw [List.length_map]; omega)
    rw [List.length_map] at hi1 hi2
    have j1 := hi1 i (by omega)
    have j2 := hi2 i (by omega)
    rw [mg32 _ _ (by omega)] at j1 j2
    obtain ⟨s7, H7, ha, o7, k7⟩ := OS.app1 (P := Try.prog) (t := 87) (tx := 87) (bytes := 4) (c := U32 (s.getD i 0 + xs.getD i 0)) (by simp only [ty]) (by simp only [ty]) o6 rfl (by simp; omega) (by decide) e6.length
    rw [UInt32.add_comm] at ha
    -- skip R23 R22
    iterate 3 ((repeat first | refine awp_seq ?_ | refine awp_block ?_); (first | refine awp_skip ?_ | refine awp_region_drawC (id := 23) [(0, []), (1, []), (2, []), (3, []), (4, []), (5, []), (6, []), (7, []), (8, []), (9, []), (10, []), (11, []), (12, [])] mixed (by kernel_rfl) ?_ | refine awp_region (by kernel_rfl) ?_); simp -implicitDefEqProofs (disch := (try simp only [sl]); try omega) only [sm, aNext, aSel, aNextL, aNextH, heldC, heldO, heldP, aWanted, isLight, aLight, apure, aread, bd, aload, look, aput, aHeavy, amark, aThen, aInBlock, aconvInt, abinO, abin, anil, aunop, aindexAddr, afieldAddr, afield, apart, aindex, aslice, loN, hiN, aextract, amakeIface, anilCheck, aminmax, amin2, amax2, ty, ↓reduceIte, Nat.reduceEqDiff, Nat.reduceAdd, Nat.reduceSub, Nat.reduceMul, Int.reduceLT, Int.reduceLE, Int.reduceNeg, Int.reduceToNat, reduceCtorEq, Nat.reduceBEq, Nat.reduceBNe, skipped, definite, Value.cells, am, mm, keep, hc1, hc2, j1, j2, ha, hsl, hyl, List.length_map])
    -- loop end
    refine ⟨(i + 1, H7, s7), ⟨by simp only []; omega, k7.ext (Nat.le_refl _) e6, by simp only []; rw [List.range_succ, List.map_append, List.map_append]; exact o7⟩, (by repeat first | exact Forgets.nil | refine Forgets.cons (by first | (simp only [look, ↓reduceIte, Nat.reduceEqDiff]; done) | (simp only [look, ↓reduceIte, Nat.reduceEqDiff]; rfl) | simp [look]) ?_), ?_⟩
    first | omega | exact ⟨rfl, by omega⟩ | exact ⟨rfl, by simp only []; omega⟩ | (simp only []; omega)
  intro hge
  try simp only [ge_iff_le, gt_iff_lt, decide_eq_true_eq, decide_eq_false_iff_not, Nat.not_lt, Int.not_lt, Nat.not_le, Int.not_le, Bool.and_eq_true, Bool.or_eq_true, Bool.or_eq_false_iff, bne_iff_ne, ne_eq, beq_iff_eq, bne_eq_false_iff_eq, beq_eq_false_iff_ne, Bool.not_eq_true, Bool.not_eq_false, Bool.not_eq_eq_eq_not, Bool.not_true, Bool.not_false, Nat.not_le, Int.ofNat_lt, Int.ofNat_le, Int.natCast_inj] at hge
  obtain rfl : i = 8 := by omega
  -- exit R24
  iterate 2 ((repeat first | refine awp_seq ?_ | refine awp_block ?_); (first | refine awp_exit ?_ | refine awp_region (by kernel_rfl) ?_); simp -implicitDefEqProofs (disch := (try simp only [sl]); try omega) only [sm, aNext, aSel, aNextL, aNextH, heldC, heldO, heldP, aWanted, isLight, aLight, apure, aread, bd, aload, look, aput, aHeavy, amark, aThen, aInBlock, aconvInt, abinO, abin, anil, aunop, aindexAddr, afieldAddr, afield, apart, aindex, aslice, loN, hiN, aextract, amakeIface, anilCheck, aminmax, amin2, amax2, ty, ↓reduceIte, Nat.reduceEqDiff, Nat.reduceAdd, Nat.reduceSub, Nat.reduceMul, Int.reduceLT, Int.reduceLE, Int.reduceNeg, Int.reduceToNat, reduceCtorEq, Nat.reduceBEq, Nat.reduceBNe, skipped, definite, Value.cells, am, mm, keep])
  first | refine awp_ret ?_ | skip
  show ∃ v, aresults Try.prog Try.f52 _ _ = some v ∧ _
  rw [aresults_1 (r := .tmp 6) (by kernel_rfl)]
  simp -implicitDefEqProofs (disch := (try simp only [sl]); try omega) only [aresult, Option.some.injEq, exists_eq_left', sm, aNext, aSel, aNextL, aNextH, heldC, heldO, heldP, aWanted, isLight, aLight, apure, aread, bd, aload, look, aput, aHeavy, amark, aThen, aInBlock, aconvInt, abinO, abin, anil, aunop, aindexAddr, afieldAddr, afield, apart, aindex, aslice, loN, hiN, aextract, amakeIface, anilCheck, aminmax, amin2, amax2, ty, ↓reduceIte, Nat.reduceEqDiff, Nat.reduceAdd, Nat.reduceSub, Nat.reduceMul, Int.reduceLT, Int.reduceLE, Int.reduceNeg, Int.reduceToNat, reduceCtorEq, Nat.reduceBEq, Nat.reduceBNe, skipped, definite, Value.cells, am, mm, keep]
  exact ⟨o6.sl, e46⟩
end Go.Proofs.Ytelpdppdhimfoaa
