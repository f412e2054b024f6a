/- The document's stretched keys: Join, Block, Key. -/
import Derived.Test.YtelpdppdhimfoaaSt2
namespace Go.Proofs.Ytelpdppdhimfoaa
open Go Go.RowKit
set_option linter.unusedSimpArgs false
set_option linter.unusedVariables false
set_option maxRecDepth 4000
set_option maxHeartbeats 4000000 in
theorem refjn_calls (a b : List UInt8) (H : AH) (ha : a.length = 32) (hb : b.length = 32) :
    ACalls Try.prog 19 #[.agg (a.map U8).toArray, .agg (b.map U8).toArray] H fun v H' => v = .agg ((joinB a b).map U8).toArray ∧ Ext H H' := by
  have hE0 : Ext H (H ++ [ABlk.own (a.map U8)] ++ [ABlk.own (b.map U8)] ++ [ABlk.own ((zb 32).map U8)] ++ [ABlk.own ((zb 32).map U8)]) := (by repeat first | assumption | exact Ext.refl _ | exact Ext.pre (by assumption) | exact Ext.pre (Ext.pre (by assumption)) | exact Ext.pre (Ext.pre (Ext.pre (by assumption))) | exact Ext.pre (Ext.pre (Ext.pre (Ext.pre (by assumption)))) | apply Ext.pushed | refine Ext.both ?_ _ _ | refine Ext.set ?_ _ (by omega))
  have hM0 : (H ++ [ABlk.own (a.map U8)] ++ [ABlk.own (b.map U8)] ++ [ABlk.own ((zb 32).map U8)] ++ [ABlk.own ((zb 32).map U8)])[H.length]? = some (.own (a.map U8)) := (by simp -implicitDefEqProofs (disch := (try simp only [sl]); try omega) only [sm,Qj,Qi,Qq,QC,bd,look,aput,ty,↓reduceIte,Nat.reduceEqDiff,Nat.reduceAdd,Nat.reduceSub,Nat.reduceMul,Int.reduceLT,Int.reduceLE,Int.reduceNeg,Int.reduceToNat,reduceCtorEq,Nat.reduceBEq,Nat.reduceBNe,Qk,Qe,Value.cells,am,mm,keep])
  have hM1 : (H ++ [ABlk.own (a.map U8)] ++ [ABlk.own (b.map U8)] ++ [ABlk.own ((zb 32).map U8)] ++ [ABlk.own ((zb 32).map U8)])[H.length + 1]? = some (.own (b.map U8)) := (by simp -implicitDefEqProofs (disch := (try simp only [sl]); try omega) only [sm,Qj,Qi,Qq,QC,bd,look,aput,ty,↓reduceIte,Nat.reduceEqDiff,Nat.reduceAdd,Nat.reduceSub,Nat.reduceMul,Int.reduceLT,Int.reduceLE,Int.reduceNeg,Int.reduceToNat,reduceCtorEq,Nat.reduceBEq,Nat.reduceBNe,Qk,Qe,Value.cells,am,mm,keep])
  have hM2 : (H ++ [ABlk.own (a.map U8)] ++ [ABlk.own (b.map U8)] ++ [ABlk.own ((zb 32).map U8)] ++ [ABlk.own ((zb 32).map U8)])[H.length + 2]? = some (.own ((zb 32).map U8)) := (by simp -implicitDefEqProofs (disch := (try simp only [sl]); try omega) only [sm,Qj,Qi,Qq,QC,bd,look,aput,ty,↓reduceIte,Nat.reduceEqDiff,Nat.reduceAdd,Nat.reduceSub,Nat.reduceMul,Int.reduceLT,Int.reduceLE,Int.reduceNeg,Int.reduceToNat,reduceCtorEq,Nat.reduceBEq,Nat.reduceBNe,Qk,Qe,Value.cells,am,mm,keep])
  have hM3 : (H ++ [ABlk.own (a.map U8)] ++ [ABlk.own (b.map U8)] ++ [ABlk.own ((zb 32).map U8)] ++ [ABlk.own ((zb 32).map U8)])[H.length + 3]? = some (.own ((zb 32).map U8)) := (by simp -implicitDefEqProofs (disch := (try simp only [sl]); try omega) only [sm,Qj,Qi,Qq,QC,bd,look,aput,ty,↓reduceIte,Nat.reduceEqDiff,Nat.reduceAdd,Nat.reduceSub,Nat.reduceMul,Int.reduceLT,Int.reduceLE,Int.reduceNeg,Int.reduceToNat,reduceCtorEq,Nat.reduceBEq,Nat.reduceBNe,Qk,Qe,Value.cells,am,mm,keep])
  refine acalls_of_body Try.func19 rfl Try.ntmps19 (by simp) ?_
  simp only [argsT, Nat.reduceAdd]
  iterate 3 ((repeat first | refine Qo ?_ | refine Qn ?_); (first | refine Qp (by kernel_rfl) ?_); simp -implicitDefEqProofs (disch := (try simp only [sl]); try omega) only [sm,QJ,Qj,Qi,Qq,QC,bd,look,aput,QB,Qf,ty,↓reduceIte,Nat.reduceEqDiff,Nat.reduceAdd,Nat.reduceSub,Nat.reduceMul,Int.reduceLT,Int.reduceLE,Int.reduceNeg,Int.reduceToNat,reduceCtorEq,Nat.reduceBEq,Nat.reduceBNe,Qk,Qe,Value.cells,am,mm,keep, ha, hb, QO])
  generalize H ++ [ABlk.own (a.map U8)] ++ [ABlk.own (b.map U8)] ++ [ABlk.own ((zb 32).map U8)] ++ [ABlk.own ((zb 32).map U8)] = H0 at *
  have hz32 : (zb 32).length = 32 := zb_length 32
  repeat first | refine Qo ?_ | refine Qn ?_
  refine awp_forK [2, 3, 4, 5] (fun i : Nat × AH => [(6, I64 i.1)]) (fun i : Nat × AH => i.2) (fun i : Nat × AH => i.1 ≤ 32 ∧ Ext H i.2 ∧ i.2[H.length]? = some (.own (a.map U8)) ∧ i.2[H.length + 1]? = some (.own (b.map U8)) ∧ i.2[H.length + 2]? = some (.own ((zb 32).map U8)) ∧ i.2[H.length + 3]? = some (.own ((fillL (fun j => a.getD j 0 ^^^ b.getD j 0) (zb 32) i.1).map U8))) (fun i : Nat × AH => 32 - i.1) ((0, H0)) (⟨by omega, hE0, hM0, hM1, hM2, hM3⟩) (by repeat first | exact Forgets.nil | refine Forgets.cons (by first | (simp only [look, ↓reduceIte, Nat.reduceEqDiff]; done) | (simp only [look, ↓reduceIte, Nat.reduceEqDiff]; rfl) | simp [look]) ?_) rfl ?_
  clear hE0 hM0 hM1 hM2 hM3
  rintro ⟨i, H1⟩ ⟨hi, x1, a1, b1, z1, f1⟩
  simp only [] at hi x1 a1 b1 z1 f1 ⊢
  have hfl := fillL_length (fun j => a.getD j 0 ^^^ b.getD j 0) (zb 32) i
  have c1 := AH.cells_own a1
  have d1 := AH.cells_own b1
  have e1 := AH.cells_own f1
  have g1 := got_lt f1
  try simp -implicitDefEqProofs (disch := (try simp only [sl]); try omega) only [sm,QJ,Qj,Qi,Qq,QC,bd,look,aput,QB,Qf,ty,↓reduceIte,Nat.reduceEqDiff,Nat.reduceAdd,Nat.reduceSub,Nat.reduceMul,Int.reduceLT,Int.reduceLE,Int.reduceNeg,Int.reduceToNat,reduceCtorEq,Nat.reduceBEq,Nat.reduceBNe,Qk,Qe,Value.cells,am,mm,keep, ha, hb, QO]
  iterate 1 ((repeat first | refine Qo ?_ | refine Qn ?_); (first | refine Qp (by kernel_rfl) ?_); simp -implicitDefEqProofs (disch := (try simp only [sl]); try omega) only [sm,QJ,Qj,Qi,Qq,QC,bd,look,aput,QB,Qf,QI,abin,anil,ty,↓reduceIte,Nat.reduceEqDiff,Nat.reduceAdd,Nat.reduceSub,Nat.reduceMul,Int.reduceLT,Int.reduceLE,Int.reduceNeg,Int.reduceToNat,reduceCtorEq,Nat.reduceBEq,Nat.reduceBNe,Qk,Qe,Value.cells,am,mm,keep, ha, hb, QO])
  repeat first | refine Qo ?_ | refine Qn ?_
  refine awp_if _ rfl (by simp only [aeval_tmp, look, ↓reduceIte, Nat.reduceEqDiff]; exact rfl) ?_ ?_
  · intro hlt
    try simp only [ge_iff_le, gt_iff_lt, decide_eq_true_eq, decide_eq_false_iff_not, Nat.not_lt, Int.not_lt, Nat.not_le, Int.not_le, Bool.and_eq_true, Bool.or_eq_true, Bool.or_eq_false_iff, bne_iff_ne, ne_eq, beq_iff_eq, bne_eq_false_iff_eq, beq_eq_false_iff_ne, Bool.not_eq_true, Bool.not_eq_false, Bool.not_eq_eq_eq_not, Bool.not_true, Bool.not_false, Nat.not_le, Int.ofNat_lt, Int.ofNat_le, Int.natCast_inj] at hlt
    iterate 3 ((repeat first | refine Qo ?_ | refine Qn ?_); (first | refine awp_skip ?_ | refine awp_region_drawC (id := 5) [(0, []), (1, []), (2, []), (3, []), (4, []), (5, []), (6, []), (7, []), (8, []), (9, [])] mixed (by kernel_rfl) ?_ | refine Qp (by kernel_rfl) ?_); simp -implicitDefEqProofs (disch := (try simp only [sl]); try omega) only [sm,QJ,aSel,Qu,Qv,Qw,Qx,Qy,Qj,Qi,Qq,QC,Qz,bd,QF,look,aput,Qm,QB,Qf,QI,abin,anil,Qb,QA,ty,↓reduceIte,Nat.reduceEqDiff,Nat.reduceAdd,Nat.reduceSub,Nat.reduceMul,Int.reduceLT,Int.reduceLE,Int.reduceNeg,Int.reduceToNat,reduceCtorEq,Nat.reduceBEq,Nat.reduceBNe,Qk,Qe,Value.cells,am,mm,keep, ha, hb, QO, c1, d1, f1, hfl, hz32])
    rw [show (fillL (fun j => a.getD j 0 ^^^ b.getD j 0) (zb 32) i).set i (a.getD i 0 ^^^ b.getD i 0) = fillL (fun j => a.getD j 0 ^^^ b.getD j 0) (zb 32) (i + 1) from rfl]
    refine ⟨(i + 1, H1.set (H.length + 3) (.own ((fillL (fun j => a.getD j 0 ^^^ b.getD j 0) (zb 32) (i + 1)).map U8))), ⟨by simp only []; omega, Ext.set x1 _ (by omega), (gsetn H1 (H.length + 3) H.length _ (by omega)).trans a1, (gsetn H1 (H.length + 3) (H.length + 1) _ (by omega)).trans b1, (gsetn H1 (H.length + 3) (H.length + 2) _ (by omega)).trans z1, gset _ _ _ g1⟩, (by repeat first | exact Forgets.nil | refine Forgets.cons (by first | (simp only [look, ↓reduceIte, Nat.reduceEqDiff]; done) | (simp only [look, ↓reduceIte, Nat.reduceEqDiff]; rfl) | simp [look]) ?_), ?_⟩
    first | omega | exact ⟨rfl, by omega⟩ | exact ⟨rfl, by simp only []; omega⟩ | (simp only []; omega)
  intro hge
  try simp only [ge_iff_le, gt_iff_lt, decide_eq_true_eq, decide_eq_false_iff_not, Nat.not_lt, Int.not_lt, Nat.not_le, Int.not_le, Bool.and_eq_true, Bool.or_eq_true, Bool.or_eq_false_iff, bne_iff_ne, ne_eq, beq_iff_eq, bne_eq_false_iff_eq, beq_eq_false_iff_ne, Bool.not_eq_true, Bool.not_eq_false, Bool.not_eq_eq_eq_not, Bool.not_true, Bool.not_false, Nat.not_le, Int.ofNat_lt, Int.ofNat_le, Int.natCast_inj] at hge
  obtain rfl : i = 32 := by omega
  rw [fillL_all _ _ 32 hz32] at f1 e1 hfl
  have hj : (List.range 32).map (fun j => a.getD j 0 ^^^ b.getD j 0) = joinB a b := rfl
  rw [hj] at f1 e1 hfl
  have hjl := joinB_length a b
  have g2 := got_lt z1
  have hov : ovr ((zb 32).map U8) 0 ((joinB a b).map U8) = (joinB a b).map U8 := ovr_all _ _ (by rw [List.length_map, List.length_map, hjl, zb_length])
  iterate 2 ((repeat first | refine Qo ?_ | refine Qn ?_); (first | refine awp_exit ?_ | refine Qp (by kernel_rfl) ?_); simp -implicitDefEqProofs (disch := (try simp only [sl]); try omega) only [sm,QJ,Qj,Qi,Qq,QC,Qz,bd,QF,look,aput,Qm,QB,Qf,QA,ty,↓reduceIte,Nat.reduceEqDiff,Nat.reduceAdd,Nat.reduceSub,Nat.reduceMul,Int.reduceLT,Int.reduceLE,Int.reduceNeg,Int.reduceToNat,reduceCtorEq,Nat.reduceBEq,Nat.reduceBNe,Qk,Qe,Value.cells,am,mm,keep, ha, hb, QO, e1, hjl, z1, zb_length, g2, hov])
  first | refine awp_ret ?_ | skip
  show ∃ v, aresults Try.prog Try.f19 _ _ = some v ∧ _
  rw [aresults_1 (r := .cell 4 35) (by kernel_rfl)]
  simp -implicitDefEqProofs (disch := (try simp only [sl]); try omega) only [aresult, Option.some.injEq, exists_eq_left', sm,Qj,Qi,Qq,QC,Qz,bd,QF,look,aput,QB,Qf,QA,ty,↓reduceIte,Nat.reduceEqDiff,Nat.reduceAdd,Nat.reduceSub,Nat.reduceMul,Int.reduceLT,Int.reduceLE,Int.reduceNeg,Int.reduceToNat,reduceCtorEq,Nat.reduceBEq,Nat.reduceBNe,Qk,Qe,Value.cells,am,mm,keep, ha, hb, QO]
  exact Ext.set (g := H.length + 2) x1 _ (by omega)
theorem be4_div (i : UInt32) : IntKind.u8.wrap (IntKind.u32.wrap ((i.toNat : Int).tdiv 16777216)) = (((i >>> 24).toUInt8.toNat : Nat) : Int) ∧ IntKind.u8.wrap (IntKind.u32.wrap ((i.toNat : Int).tdiv 65536)) = (((i >>> 16).toUInt8.toNat : Nat) : Int) ∧ IntKind.u8.wrap (IntKind.u32.wrap ((i.toNat : Int).tdiv 256)) = (((i >>> 8).toUInt8.toNat : Nat) : Int) := by
  have h1 : (i >>> 24).toUInt8.toNat = i.toNat / 16777216 % 256 := by simp [UInt32.toNat_shiftRight, Nat.shiftRight_eq_div_pow]
  have h2 : (i >>> 16).toUInt8.toNat = i.toNat / 65536 % 256 := by simp [UInt32.toNat_shiftRight, Nat.shiftRight_eq_div_pow]
  have h3 : (i >>> 8).toUInt8.toNat = i.toNat / 256 % 256 := by simp [UInt32.toNat_shiftRight, Nat.shiftRight_eq_div_pow]
  have hi := i.toNat_lt
  rw [h1, h2, h3, Int.tdiv_eq_ediv_of_nonneg (by omega), Int.tdiv_eq_ediv_of_nonneg (by omega), Int.tdiv_eq_ediv_of_nonneg (by omega), wrap32, wrap32, wrap32, wrap8, wrap8, wrap8]
  omega
theorem OS.setlo {b p : Nat} {H : AH} {v : Value} {vs : List Value} (h : OS b H v vs) (hp : p < b) (x : ABlk) : OS b (H.set p x) v vs := by
  rcases h with h | ⟨g, rfl, hg, hbg⟩
  · exact .inl h
  · exact .inr ⟨g, rfl, (gsetn H p g x (by omega)).trans hg, hbg⟩
/-- The text of each round. -/
def textN (k t : List UInt8) : Nat → List UInt8
  | 0 => t
  | j + 1 => uN k (macB k t) j
theorem textN_mac (k t : List UInt8) : ∀ j, macB k (textN k t j) = uN k (macB k t) j
  | 0 => rfl
  | _ + 1 => rfl
theorem textN_length (k t : List UInt8) (j : Nat) : (textN k t j).length ≤ t.length + 32 := by
  cases j with
  | zero => exact Nat.le_add_right _ _
  | succ j => rw [textN, uN_length _ _ (macB_length _ _)]; omega
set_option maxHeartbeats 4000000 in
theorem refstblock_calls (pv sv : Value) (k s : List UInt8) (r : Int) (i : UInt32) (H : AH) (hk : SL H pv (k.map U8)) (hs : SL H sv (s.map U8)) (hkl : k.length ≤ 1099511627000) (hsl : s.length ≤ 1099511610000) (hr0 : -9223372036854775808 ≤ r) (hr1 : r ≤ 9223372036854775807) :
    ACalls Try.prog 17 #[pv, sv, .int .i64 r, U32 i] H fun v H' => v = .agg ((blockS k s r i).map U8).toArray ∧ Ext H H' := by
  have hE0 : Ext H (H ++ [ABlk.own ((zb 32).map U8)] ++ [ABlk.own ((zb 32).map U8)]) := (by repeat first | assumption | exact Ext.refl _ | exact Ext.pre (by assumption) | exact Ext.pre (Ext.pre (by assumption)) | exact Ext.pre (Ext.pre (Ext.pre (by assumption))) | exact Ext.pre (Ext.pre (Ext.pre (Ext.pre (by assumption)))) | apply Ext.pushed | refine Ext.both ?_ _ _ | refine Ext.set ?_ _ (by omega))
  have hM0 : (H ++ [ABlk.own ((zb 32).map U8)] ++ [ABlk.own ((zb 32).map U8)])[H.length]? = some (.own ((zb 32).map U8)) := (by simp -implicitDefEqProofs (disch := (try simp only [sl]); try omega) only [sm,Qj,Qi,Qq,QC,bd,look,aput,ty,↓reduceIte,Nat.reduceEqDiff,Nat.reduceAdd,Nat.reduceSub,Nat.reduceMul,Int.reduceLT,Int.reduceLE,Int.reduceNeg,Int.reduceToNat,reduceCtorEq,Nat.reduceBEq,Nat.reduceBNe,Qk,Qe,Value.cells,am,mm,keep])
  have hM1 : (H ++ [ABlk.own ((zb 32).map U8)] ++ [ABlk.own ((zb 32).map U8)])[H.length + 1]? = some (.own ((zb 32).map U8)) := (by simp -implicitDefEqProofs (disch := (try simp only [sl]); try omega) only [sm,Qj,Qi,Qq,QC,bd,look,aput,ty,↓reduceIte,Nat.reduceEqDiff,Nat.reduceAdd,Nat.reduceSub,Nat.reduceMul,Int.reduceLT,Int.reduceLE,Int.reduceNeg,Int.reduceToNat,reduceCtorEq,Nat.reduceBEq,Nat.reduceBNe,Qk,Qe,Value.cells,am,mm,keep])
  have hl0 : (H ++ [ABlk.own ((zb 32).map U8)] ++ [ABlk.own ((zb 32).map U8)]).length = H.length + 2 := by simp
  have hz : (zb 32).length = 32 := zb_length 32
  refine acalls_of_body Try.func17 rfl Try.ntmps17 (by simp) ?_
  simp only [argsT, Nat.reduceAdd]
  iterate 2 ((repeat first | refine Qo ?_ | refine Qn ?_); (first | refine Qp (by kernel_rfl) ?_); simp -implicitDefEqProofs (disch := (try simp only [sl]); try omega) only [sm,QJ,Qj,Qi,Qq,QC,bd,look,aput,QB,Qf,ty,↓reduceIte,Nat.reduceEqDiff,Nat.reduceAdd,Nat.reduceSub,Nat.reduceMul,Int.reduceLT,Int.reduceLE,Int.reduceNeg,Int.reduceToNat,reduceCtorEq,Nat.reduceBEq,Nat.reduceBNe,Qk,Qe,Value.cells,am,mm,keep, QO, aint])
  generalize H ++ [ABlk.own ((zb 32).map U8)] ++ [ABlk.own ((zb 32).map U8)] = H0 at *
  obtain ⟨s1, H1, ha1, o1, k1⟩ := OS.app (P := Try.prog) (t := 22) (tx := 22) (bytes := 1) (by simp only [ty]) (by simp only [ty]) (OS.nil (H.length + 2) H0) (hs.mono hE0) (all8 _) (by rw [List.length_nil, List.length_map]; omega) (by decide) (by omega)
  rw [List.nil_append] at o1
  have l1 := k1.1
  iterate 1 ((repeat first | refine Qo ?_ | refine Qn ?_); (first | refine Qp (by kernel_rfl) ?_); simp -implicitDefEqProofs (disch := (try simp only [sl]); try omega) only [sm,QJ,Qj,Qi,Qq,QC,bd,look,aput,Qm,QB,Qf,ty,↓reduceIte,Nat.reduceEqDiff,Nat.reduceAdd,Nat.reduceSub,Nat.reduceMul,Int.reduceLT,Int.reduceLE,Int.reduceNeg,Int.reduceToNat,reduceCtorEq,Nat.reduceBEq,Nat.reduceBNe,Qk,Qe,Value.cells,am,mm,keep, QO, aint, ha1])
  have t1 : SL (H1 ++ [.own ((be4 i).map U8)]) (.slice (some ⟨H1.length, 0, none⟩) 4 1) ((be4 i).map U8) := SL.own 4 rfl (gpush _ _)
  obtain ⟨s2, H2, ha2, o2, k2⟩ := OS.app (P := Try.prog) (t := 22) (tx := 22) (bytes := 1) (by simp only [ty]) (by simp only [ty]) (o1.mono (Ext.push _ [.own ((be4 i).map U8)])) t1 (all8 _) (by rw [List.length_map, List.length_map]; show (s.length + 4) * 1 ≤ _; omega) (by decide) (by rw [List.length_append]; omega)
  rw [← List.map_append] at o2
  have kk2 : Keeps (H.length + 2) H0 H2 := (k1.push (by omega) _).trans k2
  obtain ⟨d1, d2, d3⟩ := be4_div i
  have hbe : [Value.int .u8 (((i >>> 24).toUInt8.toNat : Nat) : Int), Value.int .u8 (((i >>> 16).toUInt8.toNat : Nat) : Int), Value.int .u8 (((i >>> 8).toUInt8.toNat : Nat) : Int), Value.int .u8 ((i.toUInt8.toNat : Nat) : Int)] = (be4 i).map U8 := rfl
  iterate 1 ((repeat first | refine Qo ?_ | refine Qn ?_); (first | refine Qp (by kernel_rfl) ?_); simp -implicitDefEqProofs (disch := (try simp only [sl]); try omega) only [sm,QJ,Qj,Qi,Qq,QC,Qz,bd,QF,look,aput,Qm,QH,QB,Qf,Qg,QI,abin,anil,ty,↓reduceIte,Nat.reduceEqDiff,Nat.reduceAdd,Nat.reduceSub,Nat.reduceMul,Int.reduceLT,Int.reduceLE,Int.reduceNeg,Int.reduceToNat,reduceCtorEq,Nat.reduceBEq,Nat.reduceBNe,Qk,Qe,Value.cells,am,mm,keep, QO, aint, d1, d2, d3, hbe, ha2])
  iterate 1 ((repeat first | refine Qo ?_ | refine Qn ?_); (first | refine Qp (by kernel_rfl) ?_); simp -implicitDefEqProofs (disch := (try simp only [sl]); try omega) only [sm,QJ,Qj,Qi,Qq,QC,bd,look,aput,QB,Qf,ty,↓reduceIte,Nat.reduceEqDiff,Nat.reduceAdd,Nat.reduceSub,Nat.reduceMul,Int.reduceLT,Int.reduceLE,Int.reduceNeg,Int.reduceToNat,reduceCtorEq,Nat.reduceBEq,Nat.reduceBNe,Qk,Qe,Value.cells,am,mm,keep, QO, aint])
  clear ha1 ha2 o1 k1 k2 t1 l1 d1 d2 d3 hbe
  have htl : (s ++ be4 i).length = s.length + 4 := by rw [List.length_append]; rfl
  generalize hT : s ++ be4 i = T at *
  obtain ⟨rr, hr1k, hrr, hbs⟩ : ∃ rr : Nat, rr ≤ 10000 ∧ (∀ j : Nat, j ≤ rr → (((j : Int) < r ∧ r ≤ 10000) ↔ j < rr)) ∧ blockS k s r i = accN k (macB k T) (zb 32) rr := by
    by_cases h : r < 1 ∨ 10000 < r
    · exact ⟨0, by omega, fun j hj => by omega, by rw [blockS, if_pos h]; rfl⟩
    · exact ⟨r.toNat, by omega, fun j hj => by omega, by rw [blockS, if_neg h, hT]⟩
  rw [hbs]
  have hml := macB_length k T
  have x2 : Ext H H2 := kk2.ext (by omega) hE0
  have hq0 := kk2.get (by omega) hM0
  have hq1 := kk2.get (by omega) hM1
  have l2 := kk2.1
  clear hM0 hM1 kk2 hbs
  repeat first | refine Qo ?_ | refine Qn ?_
  refine awp_forK [0, 2, 8, 9] (fun i : Nat × AH × Value => [(11, I64 i.1), (10, i.2.2)]) (fun i : Nat × AH × Value => i.2.1) (fun i : Nat × AH × Value => i.1 ≤ rr ∧ Ext H i.2.1 ∧ i.2.1[H.length]? = some (.own ((zb 32).map U8)) ∧ i.2.1[H.length + 1]? = some (.own ((accN k (macB k T) (zb 32) i.1).map U8)) ∧ OS (H.length + 2) i.2.1 i.2.2 ((textN k T i.1).map U8)) (fun i : Nat × AH × Value => rr - i.1) ((0, H2, s2)) (⟨by omega, x2, hq0, hq1, o2⟩) (by repeat first | exact Forgets.nil | refine Forgets.cons (by first | (simp only [look, ↓reduceIte, Nat.reduceEqDiff]; done) | (simp only [look, ↓reduceIte, Nat.reduceEqDiff]; rfl) | simp [look]) ?_) rfl ?_
  clear hq0 hq1 o2 x2
  rintro ⟨j, H3, s3⟩ ⟨hj, x3, p3, q3, o3⟩
  simp only [] at hj x3 p3 q3 o3 ⊢
  have hal := accN_length k (macB k T) (zb 32) hz j
  have htxl := textN_length k T j
  have hjr := hrr j hj
  have c3 := AH.cells_own q3
  have g3 := got_lt p3
  try simp -implicitDefEqProofs (disch := (try simp only [sl]); try omega) only [sm,QJ,Qj,Qi,Qq,QC,bd,look,aput,QB,Qf,ty,↓reduceIte,Nat.reduceEqDiff,Nat.reduceAdd,Nat.reduceSub,Nat.reduceMul,Int.reduceLT,Int.reduceLE,Int.reduceNeg,Int.reduceToNat,reduceCtorEq,Nat.reduceBEq,Nat.reduceBNe,Qk,Qe,Value.cells,am,mm,keep, QO, aint]
  by_cases hjlt : j < rr
  · have hj1 : (j : Int) < r := (hjr.2 hjlt).1
    have hj2 : r ≤ 10000 := (hjr.2 hjlt).2
    iterate 1 ((repeat first | refine Qo ?_ | refine Qn ?_); (first | refine Qp (by kernel_rfl) ?_); simp -implicitDefEqProofs (disch := (try simp only [sl]); try omega) only [sm,QJ,Qj,Qi,Qq,QC,bd,look,aput,QB,Qf,QI,abin,anil,ty,↓reduceIte,Nat.reduceEqDiff,Nat.reduceAdd,Nat.reduceSub,Nat.reduceMul,Int.reduceLT,Int.reduceLE,Int.reduceNeg,Int.reduceToNat,reduceCtorEq,Nat.reduceBEq,Nat.reduceBNe,Qk,Qe,Value.cells,am,mm,keep, QO, aint, hj1, hj2])
    repeat first | refine Qo ?_ | refine Qn ?_
    refine awp_if true rfl (by simp only [aeval_tmp, look, ↓reduceIte, Nat.reduceEqDiff]; try rfl) (fun _ => ?_) (fun h => absurd h (by decide))
    iterate 2 ((repeat first | refine Qo ?_ | refine Qn ?_); (first | refine awp_skip ?_ | refine Qp (by kernel_rfl) ?_); simp -implicitDefEqProofs (disch := (try simp only [sl]); try omega) only [sm,QJ,Qj,Qi,Qq,QC,bd,look,aput,Qm,QB,Qf,ty,↓reduceIte,Nat.reduceEqDiff,Nat.reduceAdd,Nat.reduceSub,Nat.reduceMul,Int.reduceLT,Int.reduceLE,Int.reduceNeg,Int.reduceToNat,reduceCtorEq,Nat.reduceBEq,Nat.reduceBNe,Qk,Qe,Value.cells,am,mm,keep, QO, aint])
    refine ACalls.mono (refmac_calls pv s3 k (textN k T j) H3 (hk.mono x3) o3.sl hkl (by omega)) ?_
    rintro _ H4 ⟨rfl, e4⟩
    rw [textN_mac]
    have hul := uN_length k (macB k T) hml j
    have ht1 : textN k T (j + 1) = uN k (macB k T) j := rfl
    have ha1 : accN k (macB k T) (zb 32) (j + 1) = joinB (accN k (macB k T) (zb 32) j) (uN k (macB k T) j) := rfl
    generalize uN k (macB k T) j = u at *
    try simp -implicitDefEqProofs (disch := (try simp only [sl]); try omega) only [sm,QJ,Qj,Qi,Qq,QC,bd,look,aput,Qm,QB,Qf,ty,↓reduceIte,Nat.reduceEqDiff,Nat.reduceAdd,Nat.reduceSub,Nat.reduceMul,Int.reduceLT,Int.reduceLE,Int.reduceNeg,Int.reduceToNat,reduceCtorEq,Nat.reduceBEq,Nat.reduceBNe,Qk,Qe,Value.cells,am,mm,keep, QO, aint, hul]
    have w5 : (H4 ++ [ABlk.own (u.map U8)])[H4.length]? = some (.own (u.map U8)) := gpush _ _
    have e5 : Ext H3 (H4 ++ [ABlk.own (u.map U8)]) := e4.pushed _
    have l5 : H.length + 2 ≤ H4.length := by have := e4.length; have := (List.getElem?_eq_some_iff.1 q3).1; omega
    generalize H4 ++ [ABlk.own (u.map U8)] = H5 at *
    generalize H4.length = q at *
    have c5 := AH.cells_own (e5 _ _ q3)
    have d5 := AH.cells_own w5
    iterate 1 ((repeat first | refine Qo ?_ | refine Qn ?_); (first | refine Qp (by kernel_rfl) ?_); simp -implicitDefEqProofs (disch := (try simp only [sl]); try omega) only [sm,QJ,Qj,Qi,Qq,QC,Qz,bd,QF,look,aput,Qm,QB,Qf,QA,ty,↓reduceIte,Nat.reduceEqDiff,Nat.reduceAdd,Nat.reduceSub,Nat.reduceMul,Int.reduceLT,Int.reduceLE,Int.reduceNeg,Int.reduceToNat,reduceCtorEq,Nat.reduceBEq,Nat.reduceBNe,Qk,Qe,Value.cells,am,mm,keep, QO, aint, c5, d5, hal, hul])
    refine ACalls.mono (refjn_calls _ u H5 hal hul) ?_
    rintro _ H6 ⟨rfl, e6⟩
    rw [← ha1]
    have hal1 := accN_length k (macB k T) (zb 32) hz (j + 1)
    generalize hac : accN k (macB k T) (zb 32) (j + 1) = ac1 at *
    have x6 := e5.trans e6
    have q6 := x6 _ _ q3
    have p6 := x6 _ _ p3
    have w6 := e6 _ _ w5
    have g6 := got_lt q6
    try simp -implicitDefEqProofs (disch := (try simp only [sl]); try omega) only [sm,QJ,Qj,Qi,Qq,QC,Qz,bd,QF,look,aput,Qm,QB,Qf,QA,ty,↓reduceIte,Nat.reduceEqDiff,Nat.reduceAdd,Nat.reduceSub,Nat.reduceMul,Int.reduceLT,Int.reduceLE,Int.reduceNeg,Int.reduceToNat,reduceCtorEq,Nat.reduceBEq,Nat.reduceBNe,Qk,Qe,Value.cells,am,mm,keep, QO, aint, q6, hal, hal1]
    have x7 : Ext H (H6.set (H.length + 1) (.own (ac1.map U8))) := Ext.set (x3.trans x6) _ (by omega)
    have q7 : (H6.set (H.length + 1) (ABlk.own (ac1.map U8)))[H.length + 1]? = some (.own (ac1.map U8)) := gset _ _ _ g6
    have p7 : (H6.set (H.length + 1) (ABlk.own (ac1.map U8)))[H.length]? = some (.own ((zb 32).map U8)) := (gsetn H6 (H.length + 1) H.length _ (by omega)).trans p6
    have w7 : (H6.set (H.length + 1) (ABlk.own (ac1.map U8)))[q]? = some (.own (u.map U8)) := (gsetn H6 (H.length + 1) q _ (by omega)).trans w6
    generalize H6.set (H.length + 1) (ABlk.own (ac1.map U8)) = H7 at *
    have t7 : SL H7 (.slice (some ⟨q, 0, none⟩) 32 0) (u.map U8) := SL.own 32 (by rw [List.length_map, hul]) w7
    have l7 : H.length + 2 ≤ H7.length := by have := (List.getElem?_eq_some_iff.1 q7).1; omega
    obtain ⟨s8, H8, ha8, o8, k8⟩ := OS.app (P := Try.prog) (t := 22) (tx := 22) (bytes := 1) (by simp only [ty]) (by simp only [ty]) (OS.nil (H.length + 2) H7) t7 (all8 _) (by rw [List.length_nil, List.length_map]; omega) (by decide) l7
    rw [List.nil_append] at o8
    have d7 := AH.cells_own w7
    have hwj : IntKind.i64.wrap ((j : Int) + 1) = (j : Int) + 1 := wj64 (by omega) (by omega)
    iterate 2 ((repeat first | refine Qo ?_ | refine Qn ?_); (first | refine Qp (by kernel_rfl) ?_); simp -implicitDefEqProofs (disch := (try simp only [sl]); try omega) only [sm,QJ,Qj,Qi,Qq,QC,bd,look,aput,Qm,QB,Qf,QI,abin,anil,Qr,loN,hiN,ty,↓reduceIte,Nat.reduceEqDiff,Nat.reduceAdd,Nat.reduceSub,Nat.reduceMul,Int.reduceLT,Int.reduceLE,Int.reduceNeg,Int.reduceToNat,reduceCtorEq,Nat.reduceBEq,Nat.reduceBNe,Qk,Qe,Value.cells,am,mm,keep, QO, aint, ha8, hul, d7, hwj])
    refine ⟨(j + 1, H8, s8), ⟨by simp only []; omega, k8.ext (by omega) x7, k8.get (by omega) p7, by simp only []; rw [hac]; exact k8.get (by omega) q7, by simp only []; rw [ht1]; exact o8⟩, (by repeat first | exact Forgets.nil | refine Forgets.cons (by first | (simp only [look, ↓reduceIte, Nat.reduceEqDiff]; done) | (simp only [look, ↓reduceIte, Nat.reduceEqDiff]; rfl) | simp [look]) ?_), ?_⟩
    first | omega | exact ⟨rfl, by omega⟩ | exact ⟨rfl, by simp only []; omega⟩ | (simp only []; omega)
  obtain rfl : j = rr := by omega
  by_cases hjr1 : (j : Int) < r
  · have hj2 : ¬ r ≤ 10000 := fun h => hjlt (hjr.1 ⟨hjr1, h⟩)
    iterate 1 ((repeat first | refine Qo ?_ | refine Qn ?_); (first | refine Qp (by kernel_rfl) ?_); simp -implicitDefEqProofs (disch := (try simp only [sl]); try omega) only [sm,QJ,Qj,Qi,Qq,QC,bd,look,aput,QB,Qf,QI,abin,anil,ty,↓reduceIte,Nat.reduceEqDiff,Nat.reduceAdd,Nat.reduceSub,Nat.reduceMul,Int.reduceLT,Int.reduceLE,Int.reduceNeg,Int.reduceToNat,reduceCtorEq,Nat.reduceBEq,Nat.reduceBNe,Qk,Qe,Value.cells,am,mm,keep, QO, aint, hjr1, hj2])
    repeat first | refine Qo ?_ | refine Qn ?_
    refine awp_if false rfl (by simp only [aeval_tmp, look, ↓reduceIte, Nat.reduceEqDiff]; try rfl) (fun h => absurd h (by decide)) (fun _ => ?_)
    iterate 2 ((repeat first | refine Qo ?_ | refine Qn ?_); (first | refine awp_exit ?_ | refine Qp (by kernel_rfl) ?_); simp -implicitDefEqProofs (disch := (try simp only [sl]); try omega) only [sm,QJ,Qj,Qi,Qq,QC,Qz,bd,QF,look,aput,Qm,QB,Qf,QA,ty,↓reduceIte,Nat.reduceEqDiff,Nat.reduceAdd,Nat.reduceSub,Nat.reduceMul,Int.reduceLT,Int.reduceLE,Int.reduceNeg,Int.reduceToNat,reduceCtorEq,Nat.reduceBEq,Nat.reduceBNe,Qk,Qe,Value.cells,am,mm,keep, QO, aint, c3, p3, hal, hz, g3])
    first | refine awp_ret ?_ | skip
    show ∃ v, aresults Try.prog Try.f17 _ _ = some v ∧ _
    rw [aresults_1 (r := .cell 8 35) (by kernel_rfl)]
    simp -implicitDefEqProofs (disch := (try simp only [sl]); try omega) only [aresult, Option.some.injEq, exists_eq_left', sm,Qj,Qi,Qq,QC,Qz,bd,QF,look,aput,QB,Qf,QA,ty,↓reduceIte,Nat.reduceEqDiff,Nat.reduceAdd,Nat.reduceSub,Nat.reduceMul,Int.reduceLT,Int.reduceLE,Int.reduceNeg,Int.reduceToNat,reduceCtorEq,Nat.reduceBEq,Nat.reduceBNe,Qk,Qe,Value.cells,am,mm,keep, QO, aint]
    exact Ext.set x3 _ (Nat.le_refl _)
  iterate 1 ((repeat first | refine Qo ?_ | refine Qn ?_); (first | refine Qp (by kernel_rfl) ?_); simp -implicitDefEqProofs (disch := (try simp only [sl]); try omega) only [sm,QJ,Qj,Qi,Qq,QC,bd,look,aput,QB,Qf,QI,abin,anil,ty,↓reduceIte,Nat.reduceEqDiff,Nat.reduceAdd,Nat.reduceSub,Nat.reduceMul,Int.reduceLT,Int.reduceLE,Int.reduceNeg,Int.reduceToNat,reduceCtorEq,Nat.reduceBEq,Nat.reduceBNe,Qk,Qe,Value.cells,am,mm,keep, QO, aint, hjr1])
  repeat first | refine Qo ?_ | refine Qn ?_
  refine awp_if false rfl (by simp only [aeval_tmp, look, ↓reduceIte, Nat.reduceEqDiff]; try rfl) (fun h => absurd h (by decide)) (fun _ => ?_)
  iterate 2 ((repeat first | refine Qo ?_ | refine Qn ?_); (first | refine awp_exit ?_ | refine Qp (by kernel_rfl) ?_); simp -implicitDefEqProofs (disch := (try simp only [sl]); try omega) only [sm,QJ,Qj,Qi,Qq,QC,Qz,bd,QF,look,aput,Qm,QB,Qf,QA,ty,↓reduceIte,Nat.reduceEqDiff,Nat.reduceAdd,Nat.reduceSub,Nat.reduceMul,Int.reduceLT,Int.reduceLE,Int.reduceNeg,Int.reduceToNat,reduceCtorEq,Nat.reduceBEq,Nat.reduceBNe,Qk,Qe,Value.cells,am,mm,keep, QO, aint, c3, p3, hal, hz, g3])
  first | refine awp_ret ?_ | skip
  show ∃ v, aresults Try.prog Try.f17 _ _ = some v ∧ _
  rw [aresults_1 (r := .cell 8 35) (by kernel_rfl)]
  simp -implicitDefEqProofs (disch := (try simp only [sl]); try omega) only [aresult, Option.some.injEq, exists_eq_left', sm,Qj,Qi,Qq,QC,Qz,bd,QF,look,aput,QB,Qf,QA,ty,↓reduceIte,Nat.reduceEqDiff,Nat.reduceAdd,Nat.reduceSub,Nat.reduceMul,Int.reduceLT,Int.reduceLE,Int.reduceNeg,Int.reduceToNat,reduceCtorEq,Nat.reduceBEq,Nat.reduceBNe,Qk,Qe,Value.cells,am,mm,keep, QO, aint]
  exact Ext.set x3 _ (Nat.le_refl _)
set_option maxHeartbeats 4000000 in
theorem refstkey_calls (pv sv : Value) (k s : List UInt8) (r z : Int) (H : AH) (hk : SL H pv (k.map U8)) (hs : SL H sv (s.map U8)) (hkl : k.length ≤ 1099511627000) (hsl : s.length ≤ 1099511610000) (hr0 : -9223372036854775808 ≤ r) (hr1 : r ≤ 9223372036854775807) (hz0 : -9223372036854775808 ≤ z) (hz1 : z ≤ 9223372036854775807) :
    ACalls Try.prog 14 #[pv, sv, .int .i64 r, .int .i64 z] H fun v H' => Ext H H' ∧ ((Off r z ∧ v = .tuple #[.slice none 0 0, .int .i64 1]) ∨ ¬ Off r z ∧ ∃ u, v = .tuple #[u, .int .i64 0] ∧ SL H' u ((keyN k s r z.toNat).map U8)) := by
  refine acalls_of_body Try.func14 rfl Try.ntmps14 (by simp) ?_
  simp only [argsT, Nat.reduceAdd]
  iterate 1 ((repeat first | refine Qo ?_ | refine Qn ?_); (first | refine Qp (by kernel_rfl) ?_); simp -implicitDefEqProofs (disch := (try simp only [sl]); try omega) only [sm,QJ,Qj,Qi,Qq,QC,bd,look,aput,QB,Qf,ty,↓reduceIte,Nat.reduceEqDiff,Nat.reduceAdd,Nat.reduceSub,Nat.reduceMul,Int.reduceLT,Int.reduceLE,Int.reduceNeg,Int.reduceToNat,reduceCtorEq,Nat.reduceBEq,Nat.reduceBNe,Qk,Qe,Value.cells,am,mm,keep, aint])
  by_cases h1 : r < 1
  · -- R1
    iterate 1 ((repeat first | refine Qo ?_ | refine Qn ?_); (first | refine Qp (by kernel_rfl) ?_); simp -implicitDefEqProofs (disch := (try simp only [sl]); try omega) only [sm,QJ,Qj,Qi,Qq,QC,bd,look,aput,QB,Qf,QI,abin,anil,ty,↓reduceIte,Nat.reduceEqDiff,Nat.reduceAdd,Nat.reduceSub,Nat.reduceMul,Int.reduceLT,Int.reduceLE,Int.reduceNeg,Int.reduceToNat,reduceCtorEq,Nat.reduceBEq,Nat.reduceBNe,Qk,Qe,Value.cells,am,mm,keep, aint, h1])
    repeat first | refine Qo ?_ | refine Qn ?_
    refine awp_if true rfl (by simp only [aeval_tmp, look, ↓reduceIte, Nat.reduceEqDiff]; try rfl) (fun _ => ?_) (fun h => absurd h (by decide))
    iterate 1 ((repeat first | refine Qo ?_ | refine Qn ?_); (first | refine Qp (by kernel_rfl) ?_); simp -implicitDefEqProofs (disch := (try simp only [sl]); try omega) only [sm,QJ,Qj,Qi,Qq,QC,bd,look,aput,QB,Qf,ty,↓reduceIte,Nat.reduceEqDiff,Nat.reduceAdd,Nat.reduceSub,Nat.reduceMul,Int.reduceLT,Int.reduceLE,Int.reduceNeg,Int.reduceToNat,reduceCtorEq,Nat.reduceBEq,Nat.reduceBNe,Qk,Qe,Value.cells,am,mm,keep, aint])
    first | refine awp_ret ?_ | skip
    show ∃ v, aresults Try.prog Try.f14 _ _ = some v ∧ _
    rw [aresults_2 (r := .tmp 8) (s := .tmp 9) (by kernel_rfl)]
    simp -implicitDefEqProofs (disch := (try simp only [sl]); try omega) only [aresult, Option.some.injEq, exists_eq_left', sm,Qj,Qi,Qq,QC,Qz,bd,QF,look,aput,QB,Qf,QA,ty,↓reduceIte,Nat.reduceEqDiff,Nat.reduceAdd,Nat.reduceSub,Nat.reduceMul,Int.reduceLT,Int.reduceLE,Int.reduceNeg,Int.reduceToNat,reduceCtorEq,Nat.reduceBEq,Nat.reduceBNe,Qk,Qe,Value.cells,am,mm,keep, aint]
    exact ⟨Ext.refl _, .inl (.inl h1)⟩
  by_cases h2 : r > 10000
  · -- (cursor back)
    iterate 1 ((repeat first | refine Qo ?_ | refine Qn ?_); (first | refine Qp (by kernel_rfl) ?_); simp -implicitDefEqProofs (disch := (try simp only [sl]); try omega) only [sm,QJ,Qj,Qi,Qq,QC,bd,look,aput,QB,Qf,QI,abin,anil,ty,↓reduceIte,Nat.reduceEqDiff,Nat.reduceAdd,Nat.reduceSub,Nat.reduceMul,Int.reduceLT,Int.reduceLE,Int.reduceNeg,Int.reduceToNat,reduceCtorEq,Nat.reduceBEq,Nat.reduceBNe,Qk,Qe,Value.cells,am,mm,keep, aint, h1, h2])
    repeat first | refine Qo ?_ | refine Qn ?_
    refine awp_if true rfl (by simp only [aeval_tmp, look, ↓reduceIte, Nat.reduceEqDiff]; try rfl) (fun _ => ?_) (fun h => absurd h (by decide))
    iterate 1 ((repeat first | refine Qo ?_ | refine Qn ?_); (first | refine Qp (by kernel_rfl) ?_); simp -implicitDefEqProofs (disch := (try simp only [sl]); try omega) only [sm,QJ,Qj,Qi,Qq,QC,bd,look,aput,QB,Qf,ty,↓reduceIte,Nat.reduceEqDiff,Nat.reduceAdd,Nat.reduceSub,Nat.reduceMul,Int.reduceLT,Int.reduceLE,Int.reduceNeg,Int.reduceToNat,reduceCtorEq,Nat.reduceBEq,Nat.reduceBNe,Qk,Qe,Value.cells,am,mm,keep, aint])
    first | refine awp_ret ?_ | skip
    show ∃ v, aresults Try.prog Try.f14 _ _ = some v ∧ _
    rw [aresults_2 (r := .tmp 8) (s := .tmp 9) (by kernel_rfl)]
    simp -implicitDefEqProofs (disch := (try simp only [sl]); try omega) only [aresult, Option.some.injEq, exists_eq_left', sm,Qj,Qi,Qq,QC,Qz,bd,QF,look,aput,QB,Qf,QA,ty,↓reduceIte,Nat.reduceEqDiff,Nat.reduceAdd,Nat.reduceSub,Nat.reduceMul,Int.reduceLT,Int.reduceLE,Int.reduceNeg,Int.reduceToNat,reduceCtorEq,Nat.reduceBEq,Nat.reduceBNe,Qk,Qe,Value.cells,am,mm,keep, aint]
    exact ⟨Ext.refl _, .inl (.inr (.inl h2))⟩
  by_cases h3 : z < 0
  · -- (cursor back)
    iterate 1 ((repeat first | refine Qo ?_ | refine Qn ?_); (first | refine Qp (by kernel_rfl) ?_); simp -implicitDefEqProofs (disch := (try simp only [sl]); try omega) only [sm,QJ,Qj,Qi,Qq,QC,bd,look,aput,QB,Qf,QI,abin,anil,ty,↓reduceIte,Nat.reduceEqDiff,Nat.reduceAdd,Nat.reduceSub,Nat.reduceMul,Int.reduceLT,Int.reduceLE,Int.reduceNeg,Int.reduceToNat,reduceCtorEq,Nat.reduceBEq,Nat.reduceBNe,Qk,Qe,Value.cells,am,mm,keep, aint, h1, h2, h3])
    repeat first | refine Qo ?_ | refine Qn ?_
    refine awp_if true rfl (by simp only [aeval_tmp, look, ↓reduceIte, Nat.reduceEqDiff]; try rfl) (fun _ => ?_) (fun h => absurd h (by decide))
    iterate 1 ((repeat first | refine Qo ?_ | refine Qn ?_); (first | refine Qp (by kernel_rfl) ?_); simp -implicitDefEqProofs (disch := (try simp only [sl]); try omega) only [sm,QJ,Qj,Qi,Qq,QC,bd,look,aput,QB,Qf,ty,↓reduceIte,Nat.reduceEqDiff,Nat.reduceAdd,Nat.reduceSub,Nat.reduceMul,Int.reduceLT,Int.reduceLE,Int.reduceNeg,Int.reduceToNat,reduceCtorEq,Nat.reduceBEq,Nat.reduceBNe,Qk,Qe,Value.cells,am,mm,keep, aint])
    first | refine awp_ret ?_ | skip
    show ∃ v, aresults Try.prog Try.f14 _ _ = some v ∧ _
    rw [aresults_2 (r := .tmp 8) (s := .tmp 9) (by kernel_rfl)]
    simp -implicitDefEqProofs (disch := (try simp only [sl]); try omega) only [aresult, Option.some.injEq, exists_eq_left', sm,Qj,Qi,Qq,QC,Qz,bd,QF,look,aput,QB,Qf,QA,ty,↓reduceIte,Nat.reduceEqDiff,Nat.reduceAdd,Nat.reduceSub,Nat.reduceMul,Int.reduceLT,Int.reduceLE,Int.reduceNeg,Int.reduceToNat,reduceCtorEq,Nat.reduceBEq,Nat.reduceBNe,Qk,Qe,Value.cells,am,mm,keep, aint]
    exact ⟨Ext.refl _, .inl (.inr (.inr (.inl h3)))⟩
  by_cases h4 : z > 1024
  · -- (cursor back)
    iterate 1 ((repeat first | refine Qo ?_ | refine Qn ?_); (first | refine Qp (by kernel_rfl) ?_); simp -implicitDefEqProofs (disch := (try simp only [sl]); try omega) only [sm,QJ,Qj,Qi,Qq,QC,bd,look,aput,QB,Qf,QI,abin,anil,ty,↓reduceIte,Nat.reduceEqDiff,Nat.reduceAdd,Nat.reduceSub,Nat.reduceMul,Int.reduceLT,Int.reduceLE,Int.reduceNeg,Int.reduceToNat,reduceCtorEq,Nat.reduceBEq,Nat.reduceBNe,Qk,Qe,Value.cells,am,mm,keep, aint, h1, h2, h3, h4])
    repeat first | refine Qo ?_ | refine Qn ?_
    refine awp_if true rfl (by simp only [aeval_tmp, look, ↓reduceIte, Nat.reduceEqDiff]; try rfl) (fun _ => ?_) (fun h => absurd h (by decide))
    iterate 1 ((repeat first | refine Qo ?_ | refine Qn ?_); (first | refine Qp (by kernel_rfl) ?_); simp -implicitDefEqProofs (disch := (try simp only [sl]); try omega) only [sm,QJ,Qj,Qi,Qq,QC,bd,look,aput,QB,Qf,ty,↓reduceIte,Nat.reduceEqDiff,Nat.reduceAdd,Nat.reduceSub,Nat.reduceMul,Int.reduceLT,Int.reduceLE,Int.reduceNeg,Int.reduceToNat,reduceCtorEq,Nat.reduceBEq,Nat.reduceBNe,Qk,Qe,Value.cells,am,mm,keep, aint])
    first | refine awp_ret ?_ | skip
    show ∃ v, aresults Try.prog Try.f14 _ _ = some v ∧ _
    rw [aresults_2 (r := .tmp 8) (s := .tmp 9) (by kernel_rfl)]
    simp -implicitDefEqProofs (disch := (try simp only [sl]); try omega) only [aresult, Option.some.injEq, exists_eq_left', sm,Qj,Qi,Qq,QC,Qz,bd,QF,look,aput,QB,Qf,QA,ty,↓reduceIte,Nat.reduceEqDiff,Nat.reduceAdd,Nat.reduceSub,Nat.reduceMul,Int.reduceLT,Int.reduceLE,Int.reduceNeg,Int.reduceToNat,reduceCtorEq,Nat.reduceBEq,Nat.reduceBNe,Qk,Qe,Value.cells,am,mm,keep, aint]
    exact ⟨Ext.refl _, .inl (.inr (.inr (.inr h4)))⟩
  iterate 1 ((repeat first | refine Qo ?_ | refine Qn ?_); (first | refine Qp (by kernel_rfl) ?_); simp -implicitDefEqProofs (disch := (try simp only [sl]); try omega) only [sm,QJ,Qj,Qi,Qq,QC,bd,look,aput,QB,Qf,QI,abin,anil,ty,↓reduceIte,Nat.reduceEqDiff,Nat.reduceAdd,Nat.reduceSub,Nat.reduceMul,Int.reduceLT,Int.reduceLE,Int.reduceNeg,Int.reduceToNat,reduceCtorEq,Nat.reduceBEq,Nat.reduceBNe,Qk,Qe,Value.cells,am,mm,keep, aint, h1, h2, h3, h4])
  repeat first | refine Qo ?_ | refine Qn ?_
  refine awp_if false rfl (by simp only [aeval_tmp, look, ↓reduceIte, Nat.reduceEqDiff]; try rfl) (fun h => absurd h (by decide)) (fun _ => ?_)
  have hoff : ¬ Off r z := fun h => by rcases h with h | h | h | h <;> omega
  obtain ⟨m, rfl⟩ := Int.eq_ofNat_of_zero_le (show 0 ≤ z by omega)
  rw [Int.toNat_natCast]
  iterate 3 ((repeat first | refine Qo ?_ | refine Qn ?_); (first | refine awp_skip ?_ | refine Qp (by kernel_rfl) ?_); simp -implicitDefEqProofs (disch := (try simp only [sl]); try omega) only [sm,QJ,Qj,Qi,Qq,QC,bd,look,aput,QB,Qf,ty,↓reduceIte,Nat.reduceEqDiff,Nat.reduceAdd,Nat.reduceSub,Nat.reduceMul,Int.reduceLT,Int.reduceLE,Int.reduceNeg,Int.reduceToNat,reduceCtorEq,Nat.reduceBEq,Nat.reduceBNe,Qk,Qe,Value.cells,am,mm,keep, aint])
  repeat first | refine Qo ?_ | refine Qn ?_
  refine awp_forK [0, 1, 2, 3] (fun i : Nat × AH × Value => [(10, i.2.2), (11, U32 (UInt32.ofNat (i.1 + 1)))]) (fun i : Nat × AH × Value => i.2.1) (fun i : Nat × AH × Value => 32 * i.1 < m + 32 ∧ Keeps H.length H i.2.1 ∧ OS H.length i.2.1 i.2.2 ((outN k s r i.1).map U8)) (fun i : Nat × AH × Value => m + 32 - 32 * i.1) ((0, H, .slice none 0 0)) (⟨by simp only []; omega, Keeps.refl _ _, OS.nil _ _⟩) (by repeat first | exact Forgets.nil | refine Forgets.cons (by first | (simp only [look, ↓reduceIte, Nat.reduceEqDiff]; done) | (simp only [look, ↓reduceIte, Nat.reduceEqDiff]; rfl) | simp [look]) ?_) rfl ?_
  rintro ⟨n, H1, s1⟩ ⟨hn, k1, o1⟩
  simp only [] at hn k1 o1 ⊢
  have x1 : Ext H H1 := k1.ext (Nat.le_refl _) (Ext.refl _)
  have hol := outN_length k s r n
  have ls := alen_sl (P := Try.prog) (T := 22) (by simp only [ty]) o1.sl
  rw [List.length_map, hol] at ls
  try simp -implicitDefEqProofs (disch := (try simp only [sl]); try omega) only [sm,QJ,Qj,Qi,Qq,QC,bd,look,aput,QB,Qf,ty,↓reduceIte,Nat.reduceEqDiff,Nat.reduceAdd,Nat.reduceSub,Nat.reduceMul,Int.reduceLT,Int.reduceLE,Int.reduceNeg,Int.reduceToNat,reduceCtorEq,Nat.reduceBEq,Nat.reduceBNe,Qk,Qe,Value.cells,am,mm,keep, aint]
  iterate 1 ((repeat first | refine Qo ?_ | refine Qn ?_); (first | refine Qp (by kernel_rfl) ?_); simp -implicitDefEqProofs (disch := (try simp only [sl]); try omega) only [sm,QJ,Qj,Qi,Qq,QC,bd,look,aput,QB,Qf,QI,abin,anil,ty,↓reduceIte,Nat.reduceEqDiff,Nat.reduceAdd,Nat.reduceSub,Nat.reduceMul,Int.reduceLT,Int.reduceLE,Int.reduceNeg,Int.reduceToNat,reduceCtorEq,Nat.reduceBEq,Nat.reduceBNe,Qk,Qe,Value.cells,am,mm,keep, aint, ls])
  repeat first | refine Qo ?_ | refine Qn ?_
  refine awp_if _ rfl (by simp only [aeval_tmp, look, ↓reduceIte, Nat.reduceEqDiff]; exact rfl) ?_ ?_
  · intro hlt
    try simp only [ge_iff_le, gt_iff_lt, decide_eq_true_eq, decide_eq_false_iff_not, Nat.not_lt, Int.not_lt, Nat.not_le, Int.not_le, Bool.and_eq_true, Bool.or_eq_true, Bool.or_eq_false_iff, bne_iff_ne, ne_eq, beq_iff_eq, bne_eq_false_iff_eq, beq_eq_false_iff_ne, Bool.not_eq_true, Bool.not_eq_false, Bool.not_eq_eq_eq_not, Bool.not_true, Bool.not_false, Nat.not_le, Int.ofNat_lt, Int.ofNat_le, Int.natCast_inj] at hlt
    iterate 2 ((repeat first | refine Qo ?_ | refine Qn ?_); (first | refine awp_skip ?_ | refine Qp (by kernel_rfl) ?_); simp -implicitDefEqProofs (disch := (try simp only [sl]); try omega) only [sm,QJ,Qj,Qi,Qq,QC,bd,look,aput,Qm,QB,Qf,ty,↓reduceIte,Nat.reduceEqDiff,Nat.reduceAdd,Nat.reduceSub,Nat.reduceMul,Int.reduceLT,Int.reduceLE,Int.reduceNeg,Int.reduceToNat,reduceCtorEq,Nat.reduceBEq,Nat.reduceBNe,Qk,Qe,Value.cells,am,mm,keep, aint])
    refine ACalls.mono (refstblock_calls pv sv k s r (UInt32.ofNat (n + 1)) H1 (hk.mono x1) (hs.mono x1) hkl hsl hr0 hr1) ?_
    rintro _ H2 ⟨rfl, e2⟩
    have hbl := blockS_length k s r (UInt32.ofNat (n + 1))
    have hos := outN_succ k s r n
    generalize blockS k s r (UInt32.ofNat (n + 1)) = bb at *
    try simp -implicitDefEqProofs (disch := (try simp only [sl]); try omega) only [sm,QJ,Qj,Qi,Qq,QC,bd,look,aput,Qm,QB,Qf,ty,↓reduceIte,Nat.reduceEqDiff,Nat.reduceAdd,Nat.reduceSub,Nat.reduceMul,Int.reduceLT,Int.reduceLE,Int.reduceNeg,Int.reduceToNat,reduceCtorEq,Nat.reduceBEq,Nat.reduceBNe,Qk,Qe,Value.cells,am,mm,keep, aint, hbl]
    have o2 := (o1.mono e2).mono (Ext.push H2 [ABlk.own (bb.map U8)])
    have k2 : Keeps H.length H (H2 ++ [ABlk.own (bb.map U8)]) := (k1.trans (Keeps.of_ext e2 k1.1)).push (Nat.le_refl _) _
    have t2 : SL (H2 ++ [ABlk.own (bb.map U8)]) (.slice (some ⟨H2.length, 0, none⟩) 32 0) (bb.map U8) := SL.own 32 (by rw [List.length_map, hbl]) (gpush _ _)
    obtain ⟨s3, H3, ha3, o3, k3⟩ := OS.app (P := Try.prog) (t := 22) (tx := 22) (bytes := 1) (by simp only [ty]) (by simp only [ty]) o2 t2 (all8 _) (by rw [List.length_map, List.length_map]; omega) (by decide) k2.1
    rw [← List.map_append, ← hos] at o3
    have hw11 : IntKind.u32.wrap (((n : Int) + 1) % 4294967296 + 1) = ((n : Int) + 1 + 1) % 4294967296 := by rw [wrap32]; omega
    iterate 2 ((repeat first | refine Qo ?_ | refine Qn ?_); (first | refine Qp (by kernel_rfl) ?_); simp -implicitDefEqProofs (disch := (try simp only [sl]); try omega) only [sm,QJ,Qj,Qi,Qq,QC,bd,look,aput,Qm,QB,Qf,QI,abin,anil,Qr,loN,hiN,ty,↓reduceIte,Nat.reduceEqDiff,Nat.reduceAdd,Nat.reduceSub,Nat.reduceMul,Int.reduceLT,Int.reduceLE,Int.reduceNeg,Int.reduceToNat,reduceCtorEq,Nat.reduceBEq,Nat.reduceBNe,Qk,Qe,Value.cells,am,mm,keep, aint, hbl, ha3])
    refine ⟨(n + 1, H3, s3), ⟨by simp only []; omega, k2.trans k3, o3⟩, (by repeat first | exact Forgets.nil | refine Forgets.cons (by first | (simp only [look, ↓reduceIte, Nat.reduceEqDiff]; done) | (simp only [look, ↓reduceIte, Nat.reduceEqDiff]; rfl) | simp [look, hw11]) ?_), ?_⟩
    first | omega | exact ⟨rfl, by omega⟩ | exact ⟨rfl, by simp only []; omega⟩ | (simp only []; omega)
  intro hge
  try simp only [ge_iff_le, gt_iff_lt, decide_eq_true_eq, decide_eq_false_iff_not, Nat.not_lt, Int.not_lt, Nat.not_le, Int.not_le, Bool.and_eq_true, Bool.or_eq_true, Bool.or_eq_false_iff, bne_iff_ne, ne_eq, beq_iff_eq, bne_eq_false_iff_eq, beq_eq_false_iff_ne, Bool.not_eq_true, Bool.not_eq_false, Bool.not_eq_eq_eq_not, Bool.not_true, Bool.not_false, Nat.not_le, Int.ofNat_lt, Int.ofNat_le, Int.natCast_inj] at hge
  have hke := keyN_eq k s r m n (by omega) hn
  rcases o1 with ⟨rfl, hnil⟩ | ⟨g, rfl, hg, hb⟩
  · have hl := congrArg List.length hnil
    rw [List.length_map, hol] at hl
    have hl : 32 * n = 0 := hl
    obtain rfl : m = 0 := by omega
    iterate 2 ((repeat first | refine Qo ?_ | refine Qn ?_); (first | refine awp_exit ?_ | refine Qp (by kernel_rfl) ?_); simp -implicitDefEqProofs (disch := (try simp only [sl]); try omega) only [sm,QJ,Qj,Qi,Qq,QC,bd,look,aput,QB,Qf,Qr,loN,hiN,ty,↓reduceIte,Nat.reduceEqDiff,Nat.reduceAdd,Nat.reduceSub,Nat.reduceMul,Int.reduceLT,Int.reduceLE,Int.reduceNeg,Int.reduceToNat,reduceCtorEq,Nat.reduceBEq,Nat.reduceBNe,Qk,Qe,Value.cells,am,mm,keep, aint])
    first | refine awp_ret ?_ | skip
    show ∃ v, aresults Try.prog Try.f14 _ _ = some v ∧ _
    rw [aresults_2 (r := .tmp 8) (s := .tmp 9) (by kernel_rfl)]
    simp -implicitDefEqProofs (disch := (try simp only [sl]); try omega) only [aresult, Option.some.injEq, exists_eq_left', sm,Qj,Qi,Qq,QC,Qz,bd,QF,look,aput,QB,Qf,QA,ty,↓reduceIte,Nat.reduceEqDiff,Nat.reduceAdd,Nat.reduceSub,Nat.reduceMul,Int.reduceLT,Int.reduceLE,Int.reduceNeg,Int.reduceToNat,reduceCtorEq,Nat.reduceBEq,Nat.reduceBNe,Qk,Qe,Value.cells,am,mm,keep, aint]
    refine ⟨x1, .inr ⟨hoff, _, rfl, ?_⟩⟩
    rw [← hke]
    exact .inl ⟨rfl, rfl⟩
  have c1 := AH.cells_own hg
  rw [List.length_map, hol]
  have hmn : m ≤ 32 * n := by omega
  iterate 2 ((repeat first | refine Qo ?_ | refine Qn ?_); (first | refine awp_exit ?_ | refine Qp (by kernel_rfl) ?_); simp -implicitDefEqProofs (disch := (try simp only [sl]); try omega) only [sm,QJ,Qj,Qi,Qq,QC,bd,look,aput,QB,Qf,Qr,loN,hiN,ty,↓reduceIte,Nat.reduceEqDiff,Nat.reduceAdd,Nat.reduceSub,Nat.reduceMul,Int.reduceLT,Int.reduceLE,Int.reduceNeg,Int.reduceToNat,reduceCtorEq,Nat.reduceBEq,Nat.reduceBNe,Qk,Qe,Value.cells,am,mm,keep, aint, hmn])
  first | refine awp_ret ?_ | skip
  show ∃ v, aresults Try.prog Try.f14 _ _ = some v ∧ _
  rw [aresults_2 (r := .tmp 8) (s := .tmp 9) (by kernel_rfl)]
  simp -implicitDefEqProofs (disch := (try simp only [sl]); try omega) only [aresult, Option.some.injEq, exists_eq_left', sm,Qj,Qi,Qq,QC,Qz,bd,QF,look,aput,QB,Qf,QA,ty,↓reduceIte,Nat.reduceEqDiff,Nat.reduceAdd,Nat.reduceSub,Nat.reduceMul,Int.reduceLT,Int.reduceLE,Int.reduceNeg,Int.reduceToNat,reduceCtorEq,Nat.reduceBEq,Nat.reduceBNe,Qk,Qe,Value.cells,am,mm,keep, aint]
  refine ⟨x1, .inr ⟨hoff, _, rfl, ?_⟩⟩
  rw [← hke, ← List.drop_zero (l := outN k s r n), Nat.sub_zero]
  exact SL.part m c1 (by omega)
end Go.Proofs.Ytelpdppdhimfoaa
