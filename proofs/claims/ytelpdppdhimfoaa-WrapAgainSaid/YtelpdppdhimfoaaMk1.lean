/- mac: Key, turned; the document's Key, turned. -/
import Derived.Test.YtelpdppdhimfoaaSh5
import Derived.Test.YtelpdppdhimfoaaCsm
namespace Go.Proofs.Ytelpdppdhimfoaa
open Go Go.RowKit
set_option linter.unusedSimpArgs false
set_option linter.unusedVariables false
set_option maxRecDepth 4000
theorem ovr_front : ∀ (cs vs : List Value), 0 < vs.length → vs.length ≤ cs.length → ovr cs 0 vs = vs ++ cs.drop vs.length := by
  intro cs vs h0 h
  unfold ovr
  split
  · rename_i v
    cases cs with
    | nil => simp at h
    | cons c cs => rfl
  · split
    · rename_i h1
      rw [h1.2, List.drop_length, List.append_nil]
    · rw [List.take_zero, List.nil_append, Nat.zero_add]
/-- copy of a whole slice to the front of an own block. -/
theorem copy_own {P : Program} {H : AH} {t tx : TypeId} {bytes g n e : Nat} {v : Value} {vs cs : List Value} (he : elemT P t = some (1, bytes)) (ht : sliceT P tx = true) (h : SL H v vs) (hv : vs.all cellv = true) (hg : H[g]? = some (.own cs)) (hn : n = cs.length) (hl : vs.length ≤ cs.length) :
    ∃ H', acopy P H t tx (.slice (some ⟨g, 0, none⟩) n e) v = some (.int .i64 vs.length, H') ∧ H'[g]? = some (.own (vs ++ cs.drop vs.length)) ∧ (∀ p x, p ≠ g → H[p]? = some x → H'[p]? = some x) ∧ H'.length = H.length := by
  subst hn
  have hmin : min vs.length cs.length = vs.length := Nat.min_eq_left hl
  by_cases h0 : vs = []
  · subst h0
    refine ⟨H, ?_, by simpa using hg, fun _ _ _ h => h, rfl⟩
    unfold acopy
    simp only [he, asrc_sl ht h hv, List.length_nil, Nat.zero_min, if_true]
    rfl
  have hp : 0 < vs.length := List.length_pos_iff.2 h0
  refine ⟨H.set g (.own (vs ++ cs.drop vs.length)), ?_, gset _ _ _ (got_lt hg), fun p x hpg hx => (gsetn H g p _ (fun e => hpg e.symm)).trans hx, by rw [List.length_set]⟩
  unfold acopy
  simp only [he, asrc_sl ht h hv, hmin, hg, Nat.mul_one, List.take_length, Nat.zero_add]
  rw [if_neg (by omega), if_pos ⟨hl, hv⟩, ovr_front _ _ hp hl]
  congr 3
  omega
def keyS (k : List UInt8) : List UInt8 := if k.length > 64 then digest k else k
theorem keyS_length (k : List UInt8) : (keyS k).length ≤ 64 := by
  unfold keyS
  split
  · rw [digest_length]; omega
  · omega
def keyB (k : List UInt8) : List UInt8 := keyS k ++ zb (64 - (keyS k).length)
theorem keyB_length (k : List UInt8) : (keyB k).length = 64 := by
  have := keyS_length k
  rw [keyB, List.length_append, zb_length]; omega
set_option maxHeartbeats 4000000 in
theorem key_calls (v : Value) (k : List UInt8) (H : AH) (hv : SL H v (k.map U8)) (hl : k.length ≤ 1099511627000) :
    ACalls Try.prog 44 #[v] H fun r H' => r = .agg ((keyB k).map U8).toArray ∧ Ext H H' := by
  have lv := alen_sl (P := Try.prog) (T := 22) (by simp only [ty]) hv
  rw [List.length_map] at lv
  obtain ⟨p, n, e, rfl⟩ := hv.isSlice
  have hz64 : (zb 64).length = 64 := zb_length 64
  refine acalls_of_body Try.func44 rfl Try.ntmps44 (by simp) ?_
  simp only [argsT, Nat.reduceAdd]
  iterate 2 ((repeat first | refine Qo ?_ | refine Qn ?_); (first | refine Qp (by kernel_rfl) ?_); simp -implicitDefEqProofs (disch := (try simp only [sl]); try omega) only [sm,QJ,Qj,Qi,Qq,QC,bd,look,aput,QB,Qf,ty,↓reduceIte,Nat.reduceEqDiff,Nat.reduceAdd,Nat.reduceSub,Nat.reduceMul,Int.reduceLT,Int.reduceLE,Int.reduceNeg,Int.reduceToNat,reduceCtorEq,Nat.reduceBEq,Nat.reduceBNe,Qk,Qe,Value.cells,am,mm,keep, QO])
  refine Qo ?_
  refine awp_join [2, 3] (fun x : Value × AH => [(0, x.1)]) (fun x : Value × AH => x.2) (fun x : Value × AH => SL x.2 x.1 ((keyS k).map U8) ∧ Ext H x.2 ∧ x.2[H.length]? = some (.own ((zb 64).map U8)) ∧ x.2[H.length + 1]? = some (.own ((zb 64).map U8))) ?_ ?_
  · have hv2 : SL (H ++ [ABlk.own ((zb 64).map U8)] ++ [ABlk.own ((zb 64).map U8)]) (.slice p n e) (k.map U8) := hv.mono (by repeat first | assumption | exact Ext.refl _ | exact Ext.pre (by assumption) | exact Ext.pre (Ext.pre (by assumption)) | exact Ext.pre (Ext.pre (Ext.pre (by assumption))) | exact Ext.pre (Ext.pre (Ext.pre (Ext.pre (by assumption)))) | apply Ext.pushed | refine Ext.both ?_ _ _ | refine Ext.set ?_ _ (by omega))
    have a0 : (H ++ [ABlk.own ((zb 64).map U8)] ++ [ABlk.own ((zb 64).map U8)])[H.length]? = some (.own ((zb 64).map U8)) := (by simp -implicitDefEqProofs (disch := (try simp only [sl]); try omega) only [sm,Qj,Qi,Qq,QC,bd,look,aput,ty,↓reduceIte,Nat.reduceEqDiff,Nat.reduceAdd,Nat.reduceSub,Nat.reduceMul,Int.reduceLT,Int.reduceLE,Int.reduceNeg,Int.reduceToNat,reduceCtorEq,Nat.reduceBEq,Nat.reduceBNe,Qk,Qe,Value.cells,am,mm,keep])
    have a1 : (H ++ [ABlk.own ((zb 64).map U8)] ++ [ABlk.own ((zb 64).map U8)])[H.length + 1]? = some (.own ((zb 64).map U8)) := (by simp -implicitDefEqProofs (disch := (try simp only [sl]); try omega) only [sm,Qj,Qi,Qq,QC,bd,look,aput,ty,↓reduceIte,Nat.reduceEqDiff,Nat.reduceAdd,Nat.reduceSub,Nat.reduceMul,Int.reduceLT,Int.reduceLE,Int.reduceNeg,Int.reduceToNat,reduceCtorEq,Nat.reduceBEq,Nat.reduceBNe,Qk,Qe,Value.cells,am,mm,keep])
    have x2 : Ext H (H ++ [ABlk.own ((zb 64).map U8)] ++ [ABlk.own ((zb 64).map U8)]) := (by repeat first | assumption | exact Ext.refl _ | exact Ext.pre (by assumption) | exact Ext.pre (Ext.pre (by assumption)) | exact Ext.pre (Ext.pre (Ext.pre (by assumption))) | exact Ext.pre (Ext.pre (Ext.pre (Ext.pre (by assumption)))) | apply Ext.pushed | refine Ext.both ?_ _ _ | refine Ext.set ?_ _ (by omega))
    generalize H ++ [ABlk.own ((zb 64).map U8)] ++ [ABlk.own ((zb 64).map U8)] = H2 at *
    iterate 1 ((repeat first | refine Qo ?_ | refine Qn ?_); (first | refine Qp (by kernel_rfl) ?_); simp -implicitDefEqProofs (disch := (try simp only [sl]); try omega) only [sm,QJ,Qj,Qi,Qq,QC,bd,look,aput,QB,Qf,QI,abin,anil,ty,↓reduceIte,Nat.reduceEqDiff,Nat.reduceAdd,Nat.reduceSub,Nat.reduceMul,Int.reduceLT,Int.reduceLE,Int.reduceNeg,Int.reduceToNat,reduceCtorEq,Nat.reduceBEq,Nat.reduceBNe,Qk,Qe,Value.cells,am,mm,keep, QO, lv])
    repeat first | refine Qo ?_ | refine Qn ?_
    refine awp_if _ rfl (by simp only [aeval_tmp, look, ↓reduceIte, Nat.reduceEqDiff]; exact rfl) ?_ ?_
    · intro h
      try simp only [ge_iff_le, gt_iff_lt, decide_eq_true_eq, decide_eq_false_iff_not, Nat.not_lt, Int.not_lt, Nat.not_le, Int.not_le, Bool.and_eq_true, Bool.or_eq_true, Bool.or_eq_false_iff, bne_iff_ne, ne_eq, beq_iff_eq, bne_eq_false_iff_eq, beq_eq_false_iff_ne, Bool.not_eq_true, Bool.not_eq_false, Bool.not_eq_eq_eq_not, Bool.not_true, Bool.not_false, Nat.not_le, Int.ofNat_lt, Int.ofNat_le, Int.natCast_inj] at h
      iterate 1 ((repeat first | refine Qo ?_ | refine Qn ?_); (first | refine Qp (by kernel_rfl) ?_); simp -implicitDefEqProofs (disch := (try simp only [sl]); try omega) only [sm,QJ,Qj,Qi,Qq,QC,bd,look,aput,Qm,QB,Qf,ty,↓reduceIte,Nat.reduceEqDiff,Nat.reduceAdd,Nat.reduceSub,Nat.reduceMul,Int.reduceLT,Int.reduceLE,Int.reduceNeg,Int.reduceToNat,reduceCtorEq,Nat.reduceBEq,Nat.reduceBNe,Qk,Qe,Value.cells,am,mm,keep, QO])
      refine ACalls.mono (sumf_calls _ _ _ (one_part hv2) (by show 1 ≤ _; decide) (by rw [allB_one]; omega)) ?_
      rintro _ H3 ⟨rfl, e3⟩
      rw [allB_one]
      have hdl := digest_length k
      have hks : keyS k = digest k := by rw [keyS, if_pos h]
      rw [← hks] at hdl ⊢
      generalize keyS k = ks at *
      have e4 := ((Ext.push H2 [ABlk.own [.slice p n e]]).trans e3).pushed [ABlk.own (ks.map U8)]
      try simp -implicitDefEqProofs (disch := (try simp only [sl]); try omega) only [sm,QJ,Qj,Qi,Qq,QC,bd,look,aput,Qm,QB,Qf,ty,↓reduceIte,Nat.reduceEqDiff,Nat.reduceAdd,Nat.reduceSub,Nat.reduceMul,Int.reduceLT,Int.reduceLE,Int.reduceNeg,Int.reduceToNat,reduceCtorEq,Nat.reduceBEq,Nat.reduceBNe,Qk,Qe,Value.cells,am,mm,keep, QO, hdl, zb_length]
      iterate 1 ((repeat first | refine Qo ?_ | refine Qn ?_); (first | refine Qp (by kernel_rfl) ?_); simp -implicitDefEqProofs (disch := (try simp only [sl]); try omega) only [sm,QJ,Qj,Qi,Qq,QC,bd,look,aput,QB,Qf,Qr,loN,hiN,ty,↓reduceIte,Nat.reduceEqDiff,Nat.reduceAdd,Nat.reduceSub,Nat.reduceMul,Int.reduceLT,Int.reduceLE,Int.reduceNeg,Int.reduceToNat,reduceCtorEq,Nat.reduceBEq,Nat.reduceBNe,Qk,Qe,Value.cells,am,mm,keep, QO, hdl, zb_length])
      try simp only [keep, look, ↓reduceIte, Nat.reduceEqDiff, List.cons_append, List.nil_append]
      refine ⟨(.slice (some ⟨H3.length, 0, none⟩) 32 0, H3 ++ [.own (ks.map U8)]), ⟨SL.own 32 (by rw [List.length_map, hdl]) (gpush _ _), x2.trans e4, e4 _ _ a0, e4 _ _ a1⟩, ?_⟩
      first | exact ⟨(by repeat first | exact Forgets.nil | refine Forgets.cons (by first | (simp only [look, ↓reduceIte, Nat.reduceEqDiff]; done) | (simp only [look, ↓reduceIte, Nat.reduceEqDiff]; rfl) | simp [look]) ?_), rfl⟩ | refine ⟨(by repeat first | exact Forgets.nil | refine Forgets.cons (by first | (simp only [look, ↓reduceIte, Nat.reduceEqDiff]; done) | (simp only [look, ↓reduceIte, Nat.reduceEqDiff]; rfl) | simp [look]) ?_), ?_⟩ | exact (by repeat first | exact Forgets.nil | refine Forgets.cons (by first | (simp only [look, ↓reduceIte, Nat.reduceEqDiff]; done) | (simp only [look, ↓reduceIte, Nat.reduceEqDiff]; rfl) | simp [look]) ?_)
      rw [ovr_all _ _ (by rw [List.length_map, List.length_map, zb_length, hdl])]
    intro h
    try simp only [ge_iff_le, gt_iff_lt, decide_eq_true_eq, decide_eq_false_iff_not, Nat.not_lt, Int.not_lt, Nat.not_le, Int.not_le, Bool.and_eq_true, Bool.or_eq_true, Bool.or_eq_false_iff, bne_iff_ne, ne_eq, beq_iff_eq, bne_eq_false_iff_eq, beq_eq_false_iff_ne, Bool.not_eq_true, Bool.not_eq_false, Bool.not_eq_eq_eq_not, Bool.not_true, Bool.not_false, Nat.not_le, Int.ofNat_lt, Int.ofNat_le, Int.natCast_inj] at h
    have hks : keyS k = k := by rw [keyS, if_neg (by omega)]
    iterate 1 ((repeat first | refine Qo ?_ | refine Qn ?_); (first | refine awp_skip ?_); simp -implicitDefEqProofs (disch := (try simp only [sl]); try omega) only [sm,QJ,Qj,Qi,Qq,QC,bd,look,aput,QB,Qf,Qr,loN,hiN,ty,↓reduceIte,Nat.reduceEqDiff,Nat.reduceAdd,Nat.reduceSub,Nat.reduceMul,Int.reduceLT,Int.reduceLE,Int.reduceNeg,Int.reduceToNat,reduceCtorEq,Nat.reduceBEq,Nat.reduceBNe,Qk,Qe,Value.cells,am,mm,keep, QO])
    try simp only [keep, look, ↓reduceIte, Nat.reduceEqDiff, List.cons_append, List.nil_append]
    refine ⟨(.slice p n e, H2), ⟨by rw [hks]; exact hv2, x2, a0, a1⟩, ?_⟩
    first | exact ⟨(by repeat first | exact Forgets.nil | refine Forgets.cons (by first | (simp only [look, ↓reduceIte, Nat.reduceEqDiff]; done) | (simp only [look, ↓reduceIte, Nat.reduceEqDiff]; rfl) | simp [look]) ?_), rfl⟩ | refine ⟨(by repeat first | exact Forgets.nil | refine Forgets.cons (by first | (simp only [look, ↓reduceIte, Nat.reduceEqDiff]; done) | (simp only [look, ↓reduceIte, Nat.reduceEqDiff]; rfl) | simp [look]) ?_), ?_⟩ | exact (by repeat first | exact Forgets.nil | refine Forgets.cons (by first | (simp only [look, ↓reduceIte, Nat.reduceEqDiff]; done) | (simp only [look, ↓reduceIte, Nat.reduceEqDiff]; rfl) | simp [look]) ?_)
  rintro ⟨w, H3⟩ ⟨hw, x3, a3, b3⟩
  simp only [] at hw x3 a3 b3 ⊢
  try simp -implicitDefEqProofs (disch := (try simp only [sl]); try omega) only [sm,QJ,Qj,Qi,Qq,QC,bd,look,aput,QB,Qf,Qr,loN,hiN,ty,↓reduceIte,Nat.reduceEqDiff,Nat.reduceAdd,Nat.reduceSub,Nat.reduceMul,Int.reduceLT,Int.reduceLE,Int.reduceNeg,Int.reduceToNat,reduceCtorEq,Nat.reduceBEq,Nat.reduceBNe,Qk,Qe,Value.cells,am,mm,keep, QO]
  have hkl := keyS_length k
  obtain ⟨H4, hc4, b4, k4, l4⟩ := copy_own (P := Try.prog) (t := 22) (tx := 22) (bytes := 1) (e := 0) (n := 64) (by simp only [ty]) (by simp only [ty]) hw (all8 _) b3 (by rw [List.length_map, hz64]) (by rw [List.length_map, List.length_map, hz64]; exact hkl)
  have x4 : Ext H H4 := fun p x hx => k4 p x (by have := (List.getElem?_eq_some_iff.1 hx).1; omega) (x3 _ _ hx)
  have a4 := k4 _ _ (by omega) a3
  have hkb : (keyS k).map U8 ++ List.drop ((keyS k).map U8).length ((zb 64).map U8) = (keyB k).map U8 := by
    rw [List.length_map, keyB, List.map_append, ← List.map_drop]
    congr 2
    rw [zb, zb, List.drop_replicate]
  rw [hkb] at b4
  have bl := keyB_length k
  have c4 := AH.cells_own b4
  have g4 := got_lt a4
  iterate 2 ((repeat first | refine Qo ?_ | refine Qn ?_); (first | refine Qp (by kernel_rfl) ?_); simp -implicitDefEqProofs (disch := (try simp only [sl]); try omega) only [sm,QJ,Qj,Qi,Qq,QC,Qz,bd,QF,look,aput,Qm,QB,Qf,QA,Qr,loN,hiN,ty,↓reduceIte,Nat.reduceEqDiff,Nat.reduceAdd,Nat.reduceSub,Nat.reduceMul,Int.reduceLT,Int.reduceLE,Int.reduceNeg,Int.reduceToNat,reduceCtorEq,Nat.reduceBEq,Nat.reduceBNe,Qk,Qe,Value.cells,am,mm,keep, QO, hc4, c4, a4, bl, zb_length])
  first | refine awp_ret ?_ | skip
  show ∃ v, aresults Try.prog Try.f44 _ _ = some v ∧ _
  rw [aresults_1 (r := .cell 2 76) (by kernel_rfl)]
  simp -implicitDefEqProofs (disch := (try simp only [sl]); try omega) only [aresult, Option.some.injEq, exists_eq_left', sm,Qj,Qi,Qq,QC,Qz,bd,QF,look,aput,QB,Qf,QA,ty,↓reduceIte,Nat.reduceEqDiff,Nat.reduceAdd,Nat.reduceSub,Nat.reduceMul,Int.reduceLT,Int.reduceLE,Int.reduceNeg,Int.reduceToNat,reduceCtorEq,Nat.reduceBEq,Nat.reduceBNe,Qk,Qe,Value.cells,am,mm,keep, QO]
  exact Ext.set x4 _ (Nat.le_refl _)
/-- Each byte joined with one. -/
def xorB (k : List UInt8) (b : UInt8) : List UInt8 := (List.range k.length).map fun j => k.getD j 0 ^^^ b
theorem xorB_length (k : List UInt8) (b : UInt8) : (xorB k b).length = k.length := by rw [xorB, List.length_map, List.length_range]
set_option maxHeartbeats 4000000 in
theorem mturned_calls (k : List UInt8) (b : UInt8) (H : AH) (hk : k.length = 64) :
    ACalls Try.prog 47 #[.agg (k.map U8).toArray, U8 b] H fun v H' => SL H' v ((xorB k b).map U8) ∧ Ext H H' := by
  have hE0 : Ext H (H ++ [ABlk.own (k.map U8)]) := (by repeat first | assumption | exact Ext.refl _ | exact Ext.pre (by assumption) | exact Ext.pre (Ext.pre (by assumption)) | exact Ext.pre (Ext.pre (Ext.pre (by assumption))) | exact Ext.pre (Ext.pre (Ext.pre (Ext.pre (by assumption)))) | apply Ext.pushed | refine Ext.both ?_ _ _ | refine Ext.set ?_ _ (by omega))
  have hM0 : (H ++ [ABlk.own (k.map U8)])[H.length]? = some (.own ((fillL (fun j => k.getD j 0 ^^^ b) k 0).map U8)) := gpush _ _
  refine acalls_of_body Try.func47 rfl Try.ntmps47 (by simp) ?_
  simp only [argsT, Nat.reduceAdd]
  iterate 2 ((repeat first | refine Qo ?_ | refine Qn ?_); (first | refine Qp (by kernel_rfl) ?_); simp -implicitDefEqProofs (disch := (try simp only [sl]); try omega) only [sm,QJ,Qj,Qi,Qq,QC,bd,look,aput,QB,Qf,ty,↓reduceIte,Nat.reduceEqDiff,Nat.reduceAdd,Nat.reduceSub,Nat.reduceMul,Int.reduceLT,Int.reduceLE,Int.reduceNeg,Int.reduceToNat,reduceCtorEq,Nat.reduceBEq,Nat.reduceBNe,Qk,Qe,Value.cells,am,mm,keep, hk])
  repeat first | refine Qo ?_ | refine Qn ?_
  refine awp_forK [1, 2] (fun i : Nat × AH => [(6, I64 i.1)]) (fun i : Nat × AH => i.2) (fun i : Nat × AH => i.1 ≤ 64 ∧ Ext H i.2 ∧ i.2[H.length]? = some (.own ((fillL (fun j => k.getD j 0 ^^^ b) k i.1).map U8))) (fun i : Nat × AH => 64 - i.1) ((0, H ++ [.own (k.map U8)])) (⟨by omega, hE0, hM0⟩) (by repeat first | exact Forgets.nil | refine Forgets.cons (by first | (simp only [look, ↓reduceIte, Nat.reduceEqDiff]; done) | (simp only [look, ↓reduceIte, Nat.reduceEqDiff]; rfl) | simp [look]) ?_) rfl ?_
  rintro ⟨i, H1⟩ ⟨hi, x1, a1⟩
  simp only [] at hi x1 a1 ⊢
  try simp -implicitDefEqProofs (disch := (try simp only [sl]); try omega) only [sm,QJ,Qj,Qi,Qq,QC,bd,look,aput,QB,Qf,ty,↓reduceIte,Nat.reduceEqDiff,Nat.reduceAdd,Nat.reduceSub,Nat.reduceMul,Int.reduceLT,Int.reduceLE,Int.reduceNeg,Int.reduceToNat,reduceCtorEq,Nat.reduceBEq,Nat.reduceBNe,Qk,Qe,Value.cells,am,mm,keep]
  iterate 1 ((repeat first | refine Qo ?_ | refine Qn ?_); (first | refine Qp (by kernel_rfl) ?_); simp -implicitDefEqProofs (disch := (try simp only [sl]); try omega) only [sm,QJ,Qj,Qi,Qq,QC,bd,look,aput,QB,Qf,QI,abin,anil,ty,↓reduceIte,Nat.reduceEqDiff,Nat.reduceAdd,Nat.reduceSub,Nat.reduceMul,Int.reduceLT,Int.reduceLE,Int.reduceNeg,Int.reduceToNat,reduceCtorEq,Nat.reduceBEq,Nat.reduceBNe,Qk,Qe,Value.cells,am,mm,keep])
  repeat first | refine Qo ?_ | refine Qn ?_
  refine awp_if _ rfl (by simp only [aeval_tmp, look, ↓reduceIte, Nat.reduceEqDiff]; exact rfl) ?_ ?_
  · intro hlt
    try simp only [ge_iff_le, gt_iff_lt, decide_eq_true_eq, decide_eq_false_iff_not, Nat.not_lt, Int.not_lt, Nat.not_le, Int.not_le, Bool.and_eq_true, Bool.or_eq_true, Bool.or_eq_false_iff, bne_iff_ne, ne_eq, beq_iff_eq, bne_eq_false_iff_eq, beq_eq_false_iff_ne, Bool.not_eq_true, Bool.not_eq_false, Bool.not_eq_eq_eq_not, Bool.not_true, Bool.not_false, Nat.not_le, Int.ofNat_lt, Int.ofNat_le, Int.natCast_inj] at hlt
    have hfl := fillL_length (fun j => k.getD j 0 ^^^ b) k i
    have c1 := AH.cells_own a1
    have g1 := got_lt a1
    have hgd := fillL_getD (fun j => k.getD j 0 ^^^ b) k 0 i (by omega)
    iterate 4 ((repeat first | refine Qo ?_ | refine Qn ?_); (first | refine awp_skip ?_ | refine Qp (by kernel_rfl) ?_); simp -implicitDefEqProofs (disch := (try simp only [sl]); try omega) only [sm,QJ,Qj,Qi,Qq,QC,Qz,bd,QF,look,aput,Qm,QB,Qf,QI,abin,anil,Qb,QA,ty,↓reduceIte,Nat.reduceEqDiff,Nat.reduceAdd,Nat.reduceSub,Nat.reduceMul,Int.reduceLT,Int.reduceLE,Int.reduceNeg,Int.reduceToNat,reduceCtorEq,Nat.reduceBEq,Nat.reduceBNe,Qk,Qe,Value.cells,am,mm,keep, c1, a1, hfl, hk, hgd])
    rw [show (fillL (fun j => k.getD j 0 ^^^ b) k i).set i (k.getD i 0 ^^^ b) = fillL (fun j => k.getD j 0 ^^^ b) k (i + 1) from rfl]
    refine ⟨(i + 1, H1.set H.length (.own ((fillL (fun j => k.getD j 0 ^^^ b) k (i + 1)).map U8))), ⟨by simp only []; omega, Ext.set x1 _ (Nat.le_refl _), gset _ _ _ g1⟩, (by repeat first | exact Forgets.nil | refine Forgets.cons (by first | (simp only [look, ↓reduceIte, Nat.reduceEqDiff]; done) | (simp only [look, ↓reduceIte, Nat.reduceEqDiff]; rfl) | simp [look]) ?_), ?_⟩
    first | omega | exact ⟨rfl, by omega⟩ | exact ⟨rfl, by simp only []; omega⟩ | (simp only []; omega)
  intro hge
  try simp only [ge_iff_le, gt_iff_lt, decide_eq_true_eq, decide_eq_false_iff_not, Nat.not_lt, Int.not_lt, Nat.not_le, Int.not_le, Bool.and_eq_true, Bool.or_eq_true, Bool.or_eq_false_iff, bne_iff_ne, ne_eq, beq_iff_eq, bne_eq_false_iff_eq, beq_eq_false_iff_ne, Bool.not_eq_true, Bool.not_eq_false, Bool.not_eq_eq_eq_not, Bool.not_true, Bool.not_false, Nat.not_le, Int.ofNat_lt, Int.ofNat_le, Int.natCast_inj] at hge
  obtain rfl : i = 64 := by omega
  rw [fillL_all _ _ 64 hk] at a1
  iterate 2 ((repeat first | refine Qo ?_ | refine Qn ?_); (first | refine awp_exit ?_ | refine Qp (by kernel_rfl) ?_); simp -implicitDefEqProofs (disch := (try simp only [sl]); try omega) only [sm,QJ,Qj,Qi,Qq,QC,bd,look,aput,QB,Qf,Qr,loN,hiN,ty,↓reduceIte,Nat.reduceEqDiff,Nat.reduceAdd,Nat.reduceSub,Nat.reduceMul,Int.reduceLT,Int.reduceLE,Int.reduceNeg,Int.reduceToNat,reduceCtorEq,Nat.reduceBEq,Nat.reduceBNe,Qk,Qe,Value.cells,am,mm,keep])
  first | refine awp_ret ?_ | skip
  show ∃ v, aresults Try.prog Try.f47 _ _ = some v ∧ _
  rw [aresults_1 (r := .tmp 4) (by kernel_rfl)]
  simp -implicitDefEqProofs (disch := (try simp only [sl]); try omega) only [aresult, Option.some.injEq, exists_eq_left', sm,Qj,Qi,Qq,QC,Qz,bd,QF,look,aput,QB,Qf,QA,ty,↓reduceIte,Nat.reduceEqDiff,Nat.reduceAdd,Nat.reduceSub,Nat.reduceMul,Int.reduceLT,Int.reduceLE,Int.reduceNeg,Int.reduceToNat,reduceCtorEq,Nat.reduceBEq,Nat.reduceBNe,Qk,Qe,Value.cells,am,mm,keep]
  refine ⟨?_, x1⟩
  rw [xorB, hk]
  exact SL.own 64 (by rw [List.length_map, List.length_map, List.length_range]) a1
/-- The mac. -/
def macB (k m : List UInt8) : List UInt8 := digest (xorB (keyB k) 92 ++ digest (xorB (keyB k) 54 ++ m))
theorem macB_length (k m : List UInt8) : (macB k m).length = 32 := digest_length _
set_option maxHeartbeats 4000000 in
theorem macsum_calls (w v : Value) (k : List UInt8) (ps : List (Value × List UInt8)) (H : AH) (hw : SL H w (k.map U8)) (hk : k.length ≤ 1099511627000) (hv : Parts H v ps) (hn : ps.length ≤ 1099511627776) (hl : (allB ps).length ≤ 1099511620000) :
    ACalls Try.prog 33 #[w, v] H fun r H' => r = .agg ((macB k (allB ps)).map U8).toArray ∧ Ext H H' := by
  unfold macB
  have lv := alen_sl (P := Try.prog) (T := 75) (by simp only [ty]) hv.1
  rw [List.length_map] at lv
  refine acalls_of_body Try.func33 rfl Try.ntmps33 (by simp) ?_
  simp only [argsT, Nat.reduceAdd]
  iterate 2 ((repeat first | refine Qo ?_ | refine Qn ?_); (first | refine Qp (by kernel_rfl) ?_); simp -implicitDefEqProofs (disch := (try simp only [sl]); try omega) only [sm,QJ,Qj,Qi,Qq,QC,bd,look,aput,Qm,QB,Qf,ty,↓reduceIte,Nat.reduceEqDiff,Nat.reduceAdd,Nat.reduceSub,Nat.reduceMul,Int.reduceLT,Int.reduceLE,Int.reduceNeg,Int.reduceToNat,reduceCtorEq,Nat.reduceBEq,Nat.reduceBNe,Qk,Qe,Value.cells,am,mm,keep])
  generalize hH1 : H ++ [ABlk.own (List.replicate 32 (Value.int .u8 0))] = H1
  have x1 : Ext H H1 := by rw [← hH1]; exact (by repeat first | assumption | exact Ext.refl _ | exact Ext.pre (by assumption) | exact Ext.pre (Ext.pre (by assumption)) | exact Ext.pre (Ext.pre (Ext.pre (by assumption))) | exact Ext.pre (Ext.pre (Ext.pre (Ext.pre (by assumption)))) | apply Ext.pushed | refine Ext.both ?_ _ _ | refine Ext.set ?_ _ (by omega))
  have a1 : H1[H.length]? = some (.own (List.replicate 32 (Value.int .u8 0))) := by rw [← hH1]; exact (by simp -implicitDefEqProofs (disch := (try simp only [sl]); try omega) only [sm,Qj,Qi,Qq,QC,bd,look,aput,ty,↓reduceIte,Nat.reduceEqDiff,Nat.reduceAdd,Nat.reduceSub,Nat.reduceMul,Int.reduceLT,Int.reduceLE,Int.reduceNeg,Int.reduceToNat,reduceCtorEq,Nat.reduceBEq,Nat.reduceBNe,Qk,Qe,Value.cells,am,mm,keep])
  clear hH1
  refine ACalls.mono (key_calls w k H1 (hw.mono x1) hk) ?_
  rintro _ H2 ⟨rfl, e2⟩
  have hkl := keyB_length k
  have x2 := (x1.trans e2)
  have a2 := e2 _ _ a1
  generalize keyB k = kk at *
  try simp -implicitDefEqProofs (disch := (try simp only [sl]); try omega) only [sm,QJ,Qj,Qi,Qq,QC,bd,look,aput,Qm,QB,Qf,ty,↓reduceIte,Nat.reduceEqDiff,Nat.reduceAdd,Nat.reduceSub,Nat.reduceMul,Int.reduceLT,Int.reduceLE,Int.reduceNeg,Int.reduceToNat,reduceCtorEq,Nat.reduceBEq,Nat.reduceBNe,Qk,Qe,Value.cells,am,mm,keep, hkl]
  have x3 : Ext H (H2 ++ [.own (kk.map U8)]) := x2.pushed _
  have a3 : (H2 ++ [ABlk.own (kk.map U8)])[H.length]? = some (.own (List.replicate 32 (Value.int .u8 0))) := Ext.push _ _ _ _ a2
  have b3 : (H2 ++ [ABlk.own (kk.map U8)])[H2.length]? = some (.own (kk.map U8)) := gpush _ _
  have hq : H.length < H2.length := got_lt a2
  generalize H2 ++ [ABlk.own (kk.map U8)] = H3 at *
  generalize H2.length = q at *
  have c3 := AH.cells_own b3
  iterate 1 ((repeat first | refine Qo ?_ | refine Qn ?_); (first | refine awp_region_drawC (id := 2) [(1, []), (4, []), (0, [1]), (2, []), (3, []), (5, [])] mixed (by kernel_rfl) ?_); simp -implicitDefEqProofs (disch := (try simp only [sl]); try omega) only [sm,aSel,Qu,Qv,Qw,Qx,Qy,Qj,Qi,Qq,QC,Qz,bd,QF,look,aput,Qm,QB,Qf,QA,ty,↓reduceIte,Nat.reduceEqDiff,Nat.reduceAdd,Nat.reduceSub,Nat.reduceMul,Int.reduceLT,Int.reduceLE,Int.reduceNeg,Int.reduceToNat,reduceCtorEq,Nat.reduceBEq,Nat.reduceBNe,Qk,Qe,Value.cells,am,mm,keep, c3, hkl])
  have f4 : Keeps H3.length H3 (H3 ++ [ABlk.own [Value.int .u32 0, Value.int .u32 0, Value.int .u32 0, Value.int .u32 0, Value.int .u32 0, Value.int .u32 0, Value.int .u32 0, Value.int .u32 0, Value.slice none 0 0, Value.int .u64 0]]) := (Keeps.refl _ _).push (Nat.le_refl _) _
  have p4 : (H3 ++ [ABlk.own [Value.int .u32 0, Value.int .u32 0, Value.int .u32 0, Value.int .u32 0, Value.int .u32 0, Value.int .u32 0, Value.int .u32 0, Value.int .u32 0, Value.slice none 0 0, Value.int .u64 0]])[H3.length]? = some (.own [Value.int .u32 0, Value.int .u32 0, Value.int .u32 0, Value.int .u32 0, Value.int .u32 0, Value.int .u32 0, Value.int .u32 0, Value.int .u32 0, Value.slice none 0 0, Value.int .u64 0]) := gpush _ _
  have l4 : (H3 ++ [ABlk.own [Value.int .u32 0, Value.int .u32 0, Value.int .u32 0, Value.int .u32 0, Value.int .u32 0, Value.int .u32 0, Value.int .u32 0, Value.int .u32 0, Value.slice none 0 0, Value.int .u64 0]]).length = H3.length + 1 := by simp
  generalize H3 ++ [ABlk.own [Value.int .u32 0, Value.int .u32 0, Value.int .u32 0, Value.int .u32 0, Value.int .u32 0, Value.int .u32 0, Value.int .u32 0, Value.int .u32 0, Value.slice none 0 0, Value.int .u64 0]] = H4 at *
  have hpq : q < H3.length := got_lt b3
  generalize hp : H3.length = p at *
  have c4 := f4.get hpq b3
  refine ACalls.mono (new_calls H4) ?_
  rintro w0 H5 ⟨s5, e5⟩
  have s5 := s5 0
  obtain ⟨X0, rfl, hX0, hXc0⟩ := s5.cells
  have c5 := AH.cells_own (e5 _ _ c4)
  have c4 := AH.cells_own c4
  try simp -implicitDefEqProofs (disch := (try simp only [sl]); try omega) only [sm,aSel,Qu,Qv,Qw,Qx,Qy,Qj,Qi,Qq,QC,Qz,bd,QF,look,aput,Qm,QB,Qf,QA,ty,↓reduceIte,Nat.reduceEqDiff,Nat.reduceAdd,Nat.reduceSub,Nat.reduceMul,Int.reduceLT,Int.reduceLE,Int.reduceNeg,Int.reduceToNat,reduceCtorEq,Nat.reduceBEq,Nat.reduceBNe,Qk,Qe,Value.cells,am,mm,keep, c4, c5, hkl]
  refine ACalls.mono (mturned_calls kk 54 H5 hkl) ?_
  rintro w1 H6 ⟨t6, e6⟩
  have hxl := xorB_length kk 54
  have c6 := e6.cells c5
  try simp -implicitDefEqProofs (disch := (try simp only [sl]); try omega) only [sm,aSel,Qu,Qv,Qw,Qx,Qy,Qj,Qi,Qq,QC,Qz,bd,QF,look,aput,Qm,QB,Qf,QA,ty,↓reduceIte,Nat.reduceEqDiff,Nat.reduceAdd,Nat.reduceSub,Nat.reduceMul,Int.reduceLT,Int.reduceLE,Int.reduceNeg,Int.reduceToNat,reduceCtorEq,Nat.reduceBEq,Nat.reduceBNe,Qk,Qe,Value.cells,am,mm,keep, c4, c5, c6, hkl]
  refine ACalls.mono (write_calls _ w1 [] (xorB kk 54) H6 (s5.mono e6) t6 (by rw [List.length_nil]; omega)) ?_
  rintro w7 H7 ⟨s7, e7⟩
  rw [List.nil_append] at s7
  obtain ⟨X, rfl, hX, hXc⟩ := s7.cells
  have x67 := (e5.trans e6).trans e7
  have p7 := x67 _ _ p4
  have l7 := got_lt p7
  have g6 := (e5.trans e6).length
  try simp -implicitDefEqProofs (disch := (try simp only [sl]); try omega) only [sm,aSel,Qu,Qv,Qw,Qx,Qy,Qj,Qi,Qq,QC,Qz,bd,QF,look,aput,Qm,QB,Qf,QA,ty,↓reduceIte,Nat.reduceEqDiff,Nat.reduceAdd,Nat.reduceSub,Nat.reduceMul,Int.reduceLT,Int.reduceLE,Int.reduceNeg,Int.reduceToNat,reduceCtorEq,Nat.reduceBEq,Nat.reduceBNe,Qk,Qe,Value.cells,am,mm,keep, hXc, p7, hX]
  have f8 : Keeps p H3 (H7.set p (.own X)) := (f4.trans (Keeps.of_ext x67 (by omega))).set (Nat.le_refl _) _
  have p8 : (H7.set p (ABlk.own X))[p]? = some (.own X) := gset _ _ _ l7
  have s8 : St (p + 1) (H7.set p (.own X)) (.agg X.toArray) (xorB kk 54 ++ ((ps.map (·.2)).take 0).flatten) := by
    have := (s7.low (show p + 1 ≤ H6.length by omega)).set (p := p) (by omega) (.own X)
    simpa using this
  generalize H7.set p (.own X) = H8 at *
  iterate 1 ((repeat first | refine Qo ?_ | refine Qn ?_); (first | refine Qp (by kernel_rfl) ?_); simp -implicitDefEqProofs (disch := (try simp only [sl]); try omega) only [sm,QJ,Qj,Qi,Qq,QC,bd,look,aput,QB,Qf,ty,↓reduceIte,Nat.reduceEqDiff,Nat.reduceAdd,Nat.reduceSub,Nat.reduceMul,Int.reduceLT,Int.reduceLE,Int.reduceNeg,Int.reduceToNat,reduceCtorEq,Nat.reduceBEq,Nat.reduceBNe,Qk,Qe,Value.cells,am,mm,keep, lv])
  repeat first | refine Qo ?_ | refine Qn ?_
  refine awp_forK [4, 5, 6, 16, 17] (fun i : Nat × AH × List Value => [(18, I64 i.1)]) (fun i : Nat × AH × List Value => i.2.1) (fun i : Nat × AH × List Value => i.1 ≤ ps.length ∧ Keeps p H3 i.2.1 ∧ i.2.1[p]? = some (.own i.2.2) ∧ St (p + 1) i.2.1 (.agg i.2.2.toArray) (xorB kk 54 ++ ((ps.map (·.2)).take i.1).flatten)) (fun i : Nat × AH × List Value => ps.length - i.1) ((0, H8, X)) (⟨by omega, f8, p8, s8⟩) (by repeat first | exact Forgets.nil | refine Forgets.cons (by first | (simp only [look, ↓reduceIte, Nat.reduceEqDiff]; done) | (simp only [look, ↓reduceIte, Nat.reduceEqDiff]; rfl) | simp [look]) ?_) rfl ?_
  clear s8 p8 s7 s5 t6 p7 p4 c4 c5 c6
  have hvv := hv.mono x3
  rintro ⟨i, H9, Y⟩ ⟨hi, f9, p9, s9⟩
  simp only [] at hi f9 p9 s9 ⊢
  obtain ⟨Y', hY', hY, hYc⟩ := s9.cells
  obtain rfl : Y = Y' := by injection hY' with h; simpa using congrArg Array.toList h
  clear hY'
  have l9 := got_lt p9
  have b9 := AH.cells_own p9
  have x9 : Ext H3 H9 := f9.ext (by omega) (Ext.refl _)
  try simp -implicitDefEqProofs (disch := (try simp only [sl]); try omega) only [sm,QJ,Qj,Qi,Qq,QC,bd,look,aput,QB,Qf,ty,↓reduceIte,Nat.reduceEqDiff,Nat.reduceAdd,Nat.reduceSub,Nat.reduceMul,Int.reduceLT,Int.reduceLE,Int.reduceNeg,Int.reduceToNat,reduceCtorEq,Nat.reduceBEq,Nat.reduceBNe,Qk,Qe,Value.cells,am,mm,keep]
  iterate 1 ((repeat first | refine Qo ?_ | refine Qn ?_); (first | refine Qp (by kernel_rfl) ?_); simp -implicitDefEqProofs (disch := (try simp only [sl]); try omega) only [sm,QJ,Qj,Qi,Qq,QC,bd,look,aput,QB,Qf,QI,abin,anil,ty,↓reduceIte,Nat.reduceEqDiff,Nat.reduceAdd,Nat.reduceSub,Nat.reduceMul,Int.reduceLT,Int.reduceLE,Int.reduceNeg,Int.reduceToNat,reduceCtorEq,Nat.reduceBEq,Nat.reduceBNe,Qk,Qe,Value.cells,am,mm,keep])
  repeat first | refine Qo ?_ | refine Qn ?_
  refine awp_if _ rfl (by simp only [aeval_tmp, look, ↓reduceIte, Nat.reduceEqDiff]; exact rfl) ?_ ?_
  · intro hlt
    try simp only [ge_iff_le, gt_iff_lt, decide_eq_true_eq, decide_eq_false_iff_not, Nat.not_lt, Int.not_lt, Nat.not_le, Int.not_le, Bool.and_eq_true, Bool.or_eq_true, Bool.or_eq_false_iff, bne_iff_ne, ne_eq, beq_iff_eq, bne_eq_false_iff_eq, beq_eq_false_iff_ne, Bool.not_eq_true, Bool.not_eq_false, Bool.not_eq_eq_eq_not, Bool.not_true, Bool.not_false, Nat.not_le, Int.ofNat_lt, Int.ofNat_le, Int.natCast_inj] at hlt
    obtain ⟨g, o, e, cs, w, b, rfl, hc, hw', hb, hft⟩ := (hvv.mono x9).get i (by omega)
    iterate 3 ((repeat first | refine Qo ?_ | refine Qn ?_); (first | refine awp_skip ?_ | refine Qp (by kernel_rfl) ?_); simp -implicitDefEqProofs (disch := (try simp only [sl]); try omega) only [sm,QJ,Qj,Qi,Qq,QC,Qz,bd,QF,look,aput,Qm,QB,Qf,Qb,QA,ty,↓reduceIte,Nat.reduceEqDiff,Nat.reduceAdd,Nat.reduceSub,Nat.reduceMul,Int.reduceLT,Int.reduceLE,Int.reduceNeg,Int.reduceToNat,reduceCtorEq,Nat.reduceBEq,Nat.reduceBNe,Qk,Qe,Value.cells,am,mm,keep, hc, hw', b9, hY, hYc])
    have hle := flatten_take_le (ps.map (·.2)) (i + 1)
    rw [hft, List.length_append] at hle
    refine ACalls.mono (write_calls (.agg Y.toArray) w (xorB kk 54 ++ ((ps.map (·.2)).take i).flatten) b H9 s9 hb (by rw [List.length_append]; unfold allB at hl; omega)) ?_
    rintro wa H10 ⟨sa, ea⟩
    rw [List.append_assoc, ← hft] at sa
    obtain ⟨Z, rfl, hZ, hZc⟩ := sa.cells
    have pa := ea _ _ p9
    have la := got_lt pa
    try simp -implicitDefEqProofs (disch := (try simp only [sl]); try omega) only [sm,QJ,Qj,Qi,Qq,QC,Qz,bd,QF,look,aput,Qm,QB,Qf,QA,ty,↓reduceIte,Nat.reduceEqDiff,Nat.reduceAdd,Nat.reduceSub,Nat.reduceMul,Int.reduceLT,Int.reduceLE,Int.reduceNeg,Int.reduceToNat,reduceCtorEq,Nat.reduceBEq,Nat.reduceBNe,Qk,Qe,Value.cells,am,mm,keep, hZc, pa, hY, hZ]
    iterate 1 ((repeat first | refine Qo ?_ | refine Qn ?_); (first | refine Qp (by kernel_rfl) ?_); simp -implicitDefEqProofs (disch := (try simp only [sl]); try omega) only [sm,QJ,Qj,Qi,Qq,QC,bd,look,aput,QB,Qf,QI,abin,anil,ty,↓reduceIte,Nat.reduceEqDiff,Nat.reduceAdd,Nat.reduceSub,Nat.reduceMul,Int.reduceLT,Int.reduceLE,Int.reduceNeg,Int.reduceToNat,reduceCtorEq,Nat.reduceBEq,Nat.reduceBNe,Qk,Qe,Value.cells,am,mm,keep])
    refine ⟨(i + 1, H10.set p (.own Z), Z), ⟨by simp only []; omega, (f9.trans (Keeps.of_ext ea (by omega))).set (Nat.le_refl _) _, gset H10 _ _ la, (sa.low (by omega)).set (by omega) _⟩, (by repeat first | exact Forgets.nil | refine Forgets.cons (by first | (simp only [look, ↓reduceIte, Nat.reduceEqDiff]; done) | (simp only [look, ↓reduceIte, Nat.reduceEqDiff]; rfl) | simp [look]) ?_), ?_⟩
    first | omega | exact ⟨rfl, by omega⟩ | exact ⟨rfl, by simp only []; omega⟩ | (simp only []; omega)
  intro hge
  try simp only [ge_iff_le, gt_iff_lt, decide_eq_true_eq, decide_eq_false_iff_not, Nat.not_lt, Int.not_lt, Nat.not_le, Int.not_le, Bool.and_eq_true, Bool.or_eq_true, Bool.or_eq_false_iff, bne_iff_ne, ne_eq, beq_iff_eq, bne_eq_false_iff_eq, beq_eq_false_iff_ne, Bool.not_eq_true, Bool.not_eq_false, Bool.not_eq_eq_eq_not, Bool.not_true, Bool.not_false, Nat.not_le, Int.ofNat_lt, Int.ofNat_le, Int.natCast_inj] at hge
  obtain rfl : i = ps.length := by omega
  rw [List.take_of_length_le (by rw [List.length_map]; omega)] at s9
  change St (p + 1) H9 _ (xorB kk 54 ++ allB ps) at s9
  iterate 2 ((repeat first | refine Qo ?_ | refine Qn ?_); (first | refine awp_exit ?_ | refine Qp (by kernel_rfl) ?_); simp -implicitDefEqProofs (disch := (try simp only [sl]); try omega) only [sm,QJ,Qj,Qi,Qq,QC,Qz,bd,QF,look,aput,Qm,QB,Qf,QA,ty,↓reduceIte,Nat.reduceEqDiff,Nat.reduceAdd,Nat.reduceSub,Nat.reduceMul,Int.reduceLT,Int.reduceLE,Int.reduceNeg,Int.reduceToNat,reduceCtorEq,Nat.reduceBEq,Nat.reduceBNe,Qk,Qe,Value.cells,am,mm,keep, b9, hY, hYc])
  refine ACalls.mono (sum_calls (.agg Y.toArray) (xorB kk 54 ++ allB ps) H9 s9 (by rw [List.length_append]; omega)) ?_
  rintro _ H10 ⟨rfl, ea⟩
  have hdl := digest_length (xorB kk 54 ++ allB ps)
  generalize digest (xorB kk 54 ++ allB ps) = dd at *
  try simp -implicitDefEqProofs (disch := (try simp only [sl]); try omega) only [sm,QJ,Qj,Qi,Qq,QC,Qz,bd,QF,look,aput,Qm,QB,Qf,QA,ty,↓reduceIte,Nat.reduceEqDiff,Nat.reduceAdd,Nat.reduceSub,Nat.reduceMul,Int.reduceLT,Int.reduceLE,Int.reduceNeg,Int.reduceToNat,reduceCtorEq,Nat.reduceBEq,Nat.reduceBNe,Qk,Qe,Value.cells,am,mm,keep, hdl]
  have a11 : (H10 ++ [ABlk.own (dd.map U8)])[H.length]? = some (.own (List.replicate 32 (Value.int .u8 0))) := Ext.push _ _ _ _ (ea _ _ (x9 _ _ a3))
  have b11 : (H10 ++ [ABlk.own (dd.map U8)])[q]? = some (.own (kk.map U8)) := Ext.push _ _ _ _ (ea _ _ (x9 _ _ b3))
  have d11 : (H10 ++ [ABlk.own (dd.map U8)])[H10.length]? = some (.own (dd.map U8)) := gpush _ _
  have xb : Ext H (H10 ++ [ABlk.own (dd.map U8)]) := ((x3.trans x9).trans ea).pushed _
  generalize H10 ++ [ABlk.own (dd.map U8)] = H11 at *
  generalize H10.length = q9 at *
  have cb := AH.cells_own b11
  iterate 1 ((repeat first | refine Qo ?_ | refine Qn ?_); (first | refine awp_region_drawC (id := 9) [(0, []), (2, []), (1, []), (3, []), (4, []), (5, [])] mixed (by kernel_rfl) ?_); simp -implicitDefEqProofs (disch := (try simp only [sl]); try omega) only [sm,aSel,Qu,Qv,Qw,Qx,Qy,Qj,Qi,Qq,QC,Qz,bd,QF,look,aput,Qm,QB,Qf,QA,Qr,loN,hiN,ty,↓reduceIte,Nat.reduceEqDiff,Nat.reduceAdd,Nat.reduceSub,Nat.reduceMul,Int.reduceLT,Int.reduceLE,Int.reduceNeg,Int.reduceToNat,reduceCtorEq,Nat.reduceBEq,Nat.reduceBNe,Qk,Qe,Value.cells,am,mm,keep, cb, hkl])
  refine ACalls.mono (mturned_calls kk 92 H11 hkl) ?_
  rintro w2 H12 ⟨t12, ec⟩
  have t13 : SL H12 (.slice (some ⟨q9, 0, none⟩) 32 0) (dd.map U8) := SL.own 32 (by rw [List.length_map, hdl]) (ec _ _ d11)
  obtain ⟨wp, wn, we, rfl⟩ := t12.isSlice
  try simp -implicitDefEqProofs (disch := (try simp only [sl]); try omega) only [sm,aSel,Qu,Qv,Qw,Qx,Qy,Qj,Qi,Qq,QC,Qz,bd,QF,look,aput,Qm,QB,Qf,QA,Qr,loN,hiN,ty,↓reduceIte,Nat.reduceEqDiff,Nat.reduceAdd,Nat.reduceSub,Nat.reduceMul,Int.reduceLT,Int.reduceLE,Int.reduceNeg,Int.reduceToNat,reduceCtorEq,Nat.reduceBEq,Nat.reduceBNe,Qk,Qe,Value.cells,am,mm,keep]
  have hxl2 := xorB_length kk 92
  refine ACalls.mono (sumf_calls _ _ _ (two_parts t12 t13) (by show 2 ≤ _; decide) (by rw [allB_two, List.length_append]; omega)) ?_
  rintro _ H13 ⟨rfl, ed⟩
  rw [allB_two]
  have hdl2 := digest_length (xorB kk 92 ++ dd)
  have xc := (ec.trans (Ext.push _ _)).trans ed
  have ae := xc _ _ a11
  have xe := xb.trans xc
  have ge := got_lt ae
  try simp -implicitDefEqProofs (disch := (try simp only [sl]); try omega) only [sm,aSel,Qu,Qv,Qw,Qx,Qy,Qj,Qi,Qq,QC,Qz,bd,QF,look,aput,Qm,QB,Qf,QA,Qr,loN,hiN,ty,↓reduceIte,Nat.reduceEqDiff,Nat.reduceAdd,Nat.reduceSub,Nat.reduceMul,Int.reduceLT,Int.reduceLE,Int.reduceNeg,Int.reduceToNat,reduceCtorEq,Nat.reduceBEq,Nat.reduceBNe,Qk,Qe,Value.cells,am,mm,keep, ae, hdl2]
  first | refine awp_ret ?_ | skip
  show ∃ v, aresults Try.prog Try.f33 _ _ = some v ∧ _
  rw [aresults_1 (r := .cell 4 35) (by kernel_rfl)]
  simp -implicitDefEqProofs (disch := (try simp only [sl]); try omega) only [aresult, Option.some.injEq, exists_eq_left', sm,Qj,Qi,Qq,QC,Qz,bd,QF,look,aput,QB,Qf,QA,ty,↓reduceIte,Nat.reduceEqDiff,Nat.reduceAdd,Nat.reduceSub,Nat.reduceMul,Int.reduceLT,Int.reduceLE,Int.reduceNeg,Int.reduceToNat,reduceCtorEq,Nat.reduceBEq,Nat.reduceBNe,Qk,Qe,Value.cells,am,mm,keep]
  exact (by repeat first | assumption | exact Ext.refl _ | exact Ext.pre (by assumption) | exact Ext.pre (Ext.pre (by assumption)) | exact Ext.pre (Ext.pre (Ext.pre (by assumption))) | exact Ext.pre (Ext.pre (Ext.pre (Ext.pre (by assumption)))) | apply Ext.pushed | refine Ext.both ?_ _ _ | refine Ext.set ?_ _ (by omega))
theorem or_xor_zero (x y z : UInt8) : (x ||| (y ^^^ z)) = 0 ↔ x = 0 ∧ y = z := by
  rw [UInt8.or_eq_zero_iff, UInt8.xor_eq_zero_iff]
set_option maxHeartbeats 4000000 in
theorem equal_calls (v w : Value) (a b : List UInt8) (H : AH) (hv : SL H v (a.map U8)) (hw : SL H w (b.map U8)) (hla : a.length ≤ 9223372036854775807) :
    ACalls Try.prog 43 #[v, w] H fun r H' => r = .bool (decide (a = b)) ∧ H' = H := by
  have lv := alen_sl (P := Try.prog) (T := 22) (by simp only [ty]) hv
  have lw := alen_sl (P := Try.prog) (T := 22) (by simp only [ty]) hw
  rw [List.length_map] at lv lw
  refine acalls_of_body Try.func43 rfl Try.ntmps43 (by simp) ?_
  simp only [argsT, Nat.reduceAdd]
  iterate 2 ((repeat first | refine Qo ?_ | refine Qn ?_); (first | refine Qp (by kernel_rfl) ?_); simp -implicitDefEqProofs (disch := (try simp only [sl]); try omega) only [sm,QJ,Qj,Qi,Qq,QC,bd,look,aput,QB,Qf,QI,abin,anil,ty,↓reduceIte,Nat.reduceEqDiff,Nat.reduceAdd,Nat.reduceSub,Nat.reduceMul,Int.reduceLT,Int.reduceLE,Int.reduceNeg,Int.reduceToNat,reduceCtorEq,Nat.reduceBEq,Nat.reduceBNe,Qk,Qe,Value.cells,am,mm,keep, lv, lw])
  repeat first | refine Qo ?_ | refine Qn ?_
  refine awp_if _ rfl (by simp only [aeval_tmp, look, ↓reduceIte, Nat.reduceEqDiff]; exact rfl) ?_ ?_
  · intro hd
    try simp only [ge_iff_le, gt_iff_lt, decide_eq_true_eq, decide_eq_false_iff_not, Nat.not_lt, Int.not_lt, Nat.not_le, Int.not_le, Bool.and_eq_true, Bool.or_eq_true, Bool.or_eq_false_iff, bne_iff_ne, ne_eq, beq_iff_eq, bne_eq_false_iff_eq, beq_eq_false_iff_ne, Bool.not_eq_true, Bool.not_eq_false, Bool.not_eq_eq_eq_not, Bool.not_true, Bool.not_false, Nat.not_le, Int.ofNat_lt, Int.ofNat_le, Int.natCast_inj] at hd
    iterate 1 ((repeat first | refine Qo ?_ | refine Qn ?_); (first | refine Qp (by kernel_rfl) ?_); simp -implicitDefEqProofs (disch := (try simp only [sl]); try omega) only [sm,QJ,Qj,Qi,Qq,QC,bd,look,aput,QB,Qf,ty,↓reduceIte,Nat.reduceEqDiff,Nat.reduceAdd,Nat.reduceSub,Nat.reduceMul,Int.reduceLT,Int.reduceLE,Int.reduceNeg,Int.reduceToNat,reduceCtorEq,Nat.reduceBEq,Nat.reduceBNe,Qk,Qe,Value.cells,am,mm,keep])
    first | refine awp_ret ?_ | skip
    show ∃ v, aresults Try.prog Try.f43 _ _ = some v ∧ _
    rw [aresults_1 (r := .tmp 4) (by kernel_rfl)]
    simp -implicitDefEqProofs (disch := (try simp only [sl]); try omega) only [aresult, Option.some.injEq, exists_eq_left', sm,Qj,Qi,Qq,QC,Qz,bd,QF,look,aput,QB,Qf,QA,ty,↓reduceIte,Nat.reduceEqDiff,Nat.reduceAdd,Nat.reduceSub,Nat.reduceMul,Int.reduceLT,Int.reduceLE,Int.reduceNeg,Int.reduceToNat,reduceCtorEq,Nat.reduceBEq,Nat.reduceBNe,Qk,Qe,Value.cells,am,mm,keep]
    have : a ≠ b := fun e => hd (by rw [e])
    simp [this]
  intro hd
  try simp only [ge_iff_le, gt_iff_lt, decide_eq_true_eq, decide_eq_false_iff_not, Nat.not_lt, Int.not_lt, Nat.not_le, Int.not_le, Bool.and_eq_true, Bool.or_eq_true, Bool.or_eq_false_iff, bne_iff_ne, ne_eq, beq_iff_eq, bne_eq_false_iff_eq, beq_eq_false_iff_ne, Bool.not_eq_true, Bool.not_eq_false, Bool.not_eq_eq_eq_not, Bool.not_true, Bool.not_false, Nat.not_le, Int.ofNat_lt, Int.ofNat_le, Int.natCast_inj] at hd
  iterate 3 ((repeat first | refine Qo ?_ | refine Qn ?_); (first | refine awp_skip ?_ | refine Qp (by kernel_rfl) ?_); simp -implicitDefEqProofs (disch := (try simp only [sl]); try omega) only [sm,QJ,Qj,Qi,Qq,QC,bd,look,aput,QB,Qf,ty,↓reduceIte,Nat.reduceEqDiff,Nat.reduceAdd,Nat.reduceSub,Nat.reduceMul,Int.reduceLT,Int.reduceLE,Int.reduceNeg,Int.reduceToNat,reduceCtorEq,Nat.reduceBEq,Nat.reduceBNe,Qk,Qe,Value.cells,am,mm,keep, lv])
  repeat first | refine Qo ?_ | refine Qn ?_
  refine awp_forK [0, 1, 13] (fun i : Nat × UInt8 => [(14, I64 i.1), (5, U8 i.2)]) (fun i : Nat × UInt8 => H) (fun i : Nat × UInt8 => i.1 ≤ a.length ∧ (i.2 = 0 ↔ ∀ j, j < i.1 → a.getD j 0 = b.getD j 0)) (fun i : Nat × UInt8 => a.length - i.1) ((0, 0)) (⟨by omega, ⟨fun _ j hj => absurd hj (by simp), fun _ => rfl⟩⟩) (by repeat first | exact Forgets.nil | refine Forgets.cons (by first | (simp only [look, ↓reduceIte, Nat.reduceEqDiff]; done) | (simp only [look, ↓reduceIte, Nat.reduceEqDiff]; rfl) | simp [look]) ?_) rfl ?_
  rintro ⟨i, x⟩ ⟨hi, hj⟩
  simp only [] at hi hj ⊢
  try simp -implicitDefEqProofs (disch := (try simp only [sl]); try omega) only [sm,QJ,Qj,Qi,Qq,QC,bd,look,aput,QB,Qf,ty,↓reduceIte,Nat.reduceEqDiff,Nat.reduceAdd,Nat.reduceSub,Nat.reduceMul,Int.reduceLT,Int.reduceLE,Int.reduceNeg,Int.reduceToNat,reduceCtorEq,Nat.reduceBEq,Nat.reduceBNe,Qk,Qe,Value.cells,am,mm,keep]
  iterate 1 ((repeat first | refine Qo ?_ | refine Qn ?_); (first | refine Qp (by kernel_rfl) ?_); simp -implicitDefEqProofs (disch := (try simp only [sl]); try omega) only [sm,QJ,Qj,Qi,Qq,QC,bd,look,aput,QB,Qf,QI,abin,anil,ty,↓reduceIte,Nat.reduceEqDiff,Nat.reduceAdd,Nat.reduceSub,Nat.reduceMul,Int.reduceLT,Int.reduceLE,Int.reduceNeg,Int.reduceToNat,reduceCtorEq,Nat.reduceBEq,Nat.reduceBNe,Qk,Qe,Value.cells,am,mm,keep])
  repeat first | refine Qo ?_ | refine Qn ?_
  refine awp_if _ rfl (by simp only [aeval_tmp, look, ↓reduceIte, Nat.reduceEqDiff]; exact rfl) ?_ ?_
  · intro h
    try simp only [ge_iff_le, gt_iff_lt, decide_eq_true_eq, decide_eq_false_iff_not, Nat.not_lt, Int.not_lt, Nat.not_le, Int.not_le, Bool.and_eq_true, Bool.or_eq_true, Bool.or_eq_false_iff, bne_iff_ne, ne_eq, beq_iff_eq, bne_eq_false_iff_eq, beq_eq_false_iff_ne, Bool.not_eq_true, Bool.not_eq_false, Bool.not_eq_eq_eq_not, Bool.not_true, Bool.not_false, Nat.not_le, Int.ofNat_lt, Int.ofNat_le, Int.natCast_inj] at h
    obtain ⟨g, o, e, cs, rfl, hc, hg, h1, k, k0⟩ := hv.bytes (by omega)
    obtain ⟨g', o', e', cs', rfl, hc', hg', h1', k', k0'⟩ := hw.bytes (by omega)
    iterate 4 ((repeat first | refine Qo ?_ | refine Qn ?_); (first | refine awp_skip ?_ | refine Qp (by kernel_rfl) ?_ | refine awp_region_drawC (id := 7) [(0, []), (1, []), (2, []), (3, []), (4, []), (5, []), (6, []), (7, []), (8, []), (9, []), (10, []), (11, [])] mixed (by kernel_rfl) ?_); simp -implicitDefEqProofs (disch := (try simp only [sl]); try omega) only [sm,QJ,aSel,Qu,Qv,Qw,Qx,Qy,Qj,Qi,Qq,QC,Qz,bd,QF,look,aput,QB,Qf,QI,abin,anil,Qb,QA,ty,↓reduceIte,Nat.reduceEqDiff,Nat.reduceAdd,Nat.reduceSub,Nat.reduceMul,Int.reduceLT,Int.reduceLE,Int.reduceNeg,Int.reduceToNat,reduceCtorEq,Nat.reduceBEq,Nat.reduceBNe,Qk,Qe,Value.cells,am,mm,keep, hc, k, hc', k'])
    have hz : (x ||| (a.getD i 0 ^^^ b.getD i 0)) = 0 ↔ ∀ j, j < i + 1 → a.getD j 0 = b.getD j 0 := by
      simp only [or_xor_zero, hj]
      refine ⟨fun ⟨h1, h2⟩ j hj' => ?_, fun h => ⟨fun j hj' => h j (by omega), h i (by omega)⟩⟩
      rcases Nat.lt_or_ge j i with hji | hji
      · exact h1 j hji
      · obtain rfl : j = i := by omega
        exact h2
    refine ⟨(i + 1, x ||| (a.getD i 0 ^^^ b.getD i 0)), ⟨by simp only []; omega, hz⟩, (by repeat first | exact Forgets.nil | refine Forgets.cons (by first | (simp only [look, ↓reduceIte, Nat.reduceEqDiff]; done) | (simp only [look, ↓reduceIte, Nat.reduceEqDiff]; rfl) | simp [look]) ?_), ?_⟩
    first | omega | exact ⟨rfl, by omega⟩ | exact ⟨rfl, by simp only []; omega⟩ | (simp only []; omega)
  intro h
  try simp only [ge_iff_le, gt_iff_lt, decide_eq_true_eq, decide_eq_false_iff_not, Nat.not_lt, Int.not_lt, Nat.not_le, Int.not_le, Bool.and_eq_true, Bool.or_eq_true, Bool.or_eq_false_iff, bne_iff_ne, ne_eq, beq_iff_eq, bne_eq_false_iff_eq, beq_eq_false_iff_ne, Bool.not_eq_true, Bool.not_eq_false, Bool.not_eq_eq_eq_not, Bool.not_true, Bool.not_false, Nat.not_le, Int.ofNat_lt, Int.ofNat_le, Int.natCast_inj] at h
  iterate 2 ((repeat first | refine Qo ?_ | refine Qn ?_); (first | refine awp_exit ?_ | refine Qp (by kernel_rfl) ?_); simp -implicitDefEqProofs (disch := (try simp only [sl]); try omega) only [sm,QJ,Qj,Qi,Qq,QC,bd,look,aput,QB,Qf,QI,abin,anil,ty,↓reduceIte,Nat.reduceEqDiff,Nat.reduceAdd,Nat.reduceSub,Nat.reduceMul,Int.reduceLT,Int.reduceLE,Int.reduceNeg,Int.reduceToNat,reduceCtorEq,Nat.reduceBEq,Nat.reduceBNe,Qk,Qe,Value.cells,am,mm,keep])
  first | refine awp_ret ?_ | skip
  show ∃ v, aresults Try.prog Try.f43 _ _ = some v ∧ _
  rw [aresults_1 (r := .tmp 4) (by kernel_rfl)]
  simp -implicitDefEqProofs (disch := (try simp only [sl]); try omega) only [aresult, Option.some.injEq, exists_eq_left', sm,Qj,Qi,Qq,QC,Qz,bd,QF,look,aput,QB,Qf,QA,ty,↓reduceIte,Nat.reduceEqDiff,Nat.reduceAdd,Nat.reduceSub,Nat.reduceMul,Int.reduceLT,Int.reduceLE,Int.reduceNeg,Int.reduceToNat,reduceCtorEq,Nat.reduceBEq,Nat.reduceBNe,Qk,Qe,Value.cells,am,mm,keep]
  have : (x == 0) = decide (a = b) := by
    rw [Bool.eq_iff_iff, beq_iff_eq, decide_eq_true_iff, hj]
    exact ⟨fun k => eq_of_all hd (fun j hj' => k j (by omega)), fun e j _ => by rw [e]⟩
  rw [this]
end Go.Proofs.Ytelpdppdhimfoaa
