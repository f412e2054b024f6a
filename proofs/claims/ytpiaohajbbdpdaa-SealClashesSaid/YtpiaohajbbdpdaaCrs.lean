/- The document's stream and turn. -/
import Derived.Test.YtpiaohajbbdpdaaCbl
namespace Go.Proofs.Ytpiaohajbbdpdaa
open Go Go.RowKit
set_option linter.unusedSimpArgs false
set_option linter.unusedVariables false
set_option maxRecDepth 4000
/-- The bytes of n blocks. -/
def blocksB (ks ns : List UInt8) (c : UInt32) : Nat → List UInt8
  | 0 => []
  | j + 1 => blocksB ks ns c j ++ blockB ks ns (c + UInt32.ofNat j)
theorem blocksB_length (ks ns : List UInt8) (c : UInt32) (j : Nat) : (blocksB ks ns c j).length = 64 * j := by induction j with
  | zero => rfl
  | succ j ih => rw [blocksB, List.length_append, ih, blockB_length]; omega
theorem blocksB_get (ks ns : List UInt8) (c : UInt32) (j i : Nat) (h : i < 64 * j) : (blocksB ks ns c j).getD i 0 = (blockB ks ns (c + UInt32.ofNat (i / 64))).getD (i % 64) 0 := by
  induction j with
  | zero => omega
  | succ j ih =>
    rw [blocksB, List.getD_eq_getElem?_getD]
    by_cases hi : i < 64 * j
    · rw [List.getElem?_append_left (by rw [blocksB_length]; exact hi), ← List.getD_eq_getElem?_getD, ih hi]
    · rw [List.getElem?_append_right (by rw [blocksB_length]; omega), blocksB_length, show i / 64 = j by omega, show i % 64 = i - 64 * j by omega, List.getD_eq_getElem?_getD]
theorem blocksB_take (ks ns : List UInt8) (c : UInt32) (j n : Nat) (h : n ≤ 64 * j) : (blocksB ks ns c j).take n = streamB ks ns c n := by
  apply List.ext_getElem?
  intro i
  by_cases hi : i < n
  · have h1 : i < (blocksB ks ns c j).length := by rw [blocksB_length]; omega
    have hz : i < (zb n).length := by rw [zb, List.length_replicate]; exact hi
    have e2 : (zb n).getD i 0 = 0 := by rw [zb, List.getD_eq_getElem?_getD, List.getElem?_replicate, if_pos hi]; rfl
    have e3 := blocksB_get ks ns c j i (by omega)
    rw [List.getD_eq_getElem?_getD, List.getElem?_eq_getElem h1] at e3
    rw [List.getElem?_take, if_pos hi, List.getElem?_eq_getElem h1, streamB, turnB, List.getElem?_map, List.getElem?_range hz, Option.map_some, xorAt, e2, UInt8.zero_xor, ← e3]
    rfl
  · rw [List.getElem?_eq_none (by rw [List.length_take]; omega), List.getElem?_eq_none (by rw [streamB_length]; omega)]
set_option maxHeartbeats 4000000 in
theorem refstream_calls (ks ns : List UInt8) (c : UInt32) (n : Nat) (H : AH) (hk : ks.length = 32) (hn : ns.length = 12) (hl : n ≤ 1048576) :
    ACalls Try.prog 44 #[.agg (ks.map U8).toArray, .agg (ns.map U8).toArray, U32 c, I64 n] H fun v H' => SL H' v ((streamB ks ns c n).map U8) ∧ Ext H H' := by
  refine acalls_of_body Try.func44 rfl Try.ntmps44 (by simp) ?_
  simp only [argsT, Nat.reduceAdd]
  iterate 2 ((repeat first | refine Qo ?_ | refine Qn ?_); (first | refine Qp (by kernel_rfl) ?_); simp -implicitDefEqProofs (disch := (try simp only [sl]); try omega) only [sm,QJ,Qj,Qi,Qq,QC,bd,look,aput,QB,Qf,QI,abin,anil,ty,↓reduceIte,Nat.reduceEqDiff,Nat.reduceAdd,Nat.reduceSub,Nat.reduceMul,Int.reduceLT,Int.reduceLE,Int.reduceNeg,Int.reduceToNat,reduceCtorEq,Nat.reduceBEq,Nat.reduceBNe,Qk,Qe,Value.cells,am,mm,keep, hk, hn])
  repeat first | refine Qo ?_ | refine Qn ?_
  refine awp_if false rfl (by first | (simp only [aeval_tmp, look, ↓reduceIte, Nat.reduceEqDiff]; try rfl) | rfl) (fun h => absurd h (by decide)) (fun _ => ?_)
  have a0 : (H ++ [ABlk.own (ks.map U8)] ++ [ABlk.own (ns.map U8)])[H.length]? = some (.own (ks.map U8)) := (by simp -implicitDefEqProofs (disch := (try simp only [sl]); try omega) only [sm,Qj,Qi,Qq,QC,bd,look,aput,ty,↓reduceIte,Nat.reduceEqDiff,Nat.reduceAdd,Nat.reduceSub,Nat.reduceMul,Int.reduceLT,Int.reduceLE,Int.reduceNeg,Int.reduceToNat,reduceCtorEq,Nat.reduceBEq,Nat.reduceBNe,Qk,Qe,Value.cells,am,mm,keep])
  have a1 : (H ++ [ABlk.own (ks.map U8)] ++ [ABlk.own (ns.map U8)])[H.length + 1]? = some (.own (ns.map U8)) := (by simp -implicitDefEqProofs (disch := (try simp only [sl]); try omega) only [sm,Qj,Qi,Qq,QC,bd,look,aput,ty,↓reduceIte,Nat.reduceEqDiff,Nat.reduceAdd,Nat.reduceSub,Nat.reduceMul,Int.reduceLT,Int.reduceLE,Int.reduceNeg,Int.reduceToNat,reduceCtorEq,Nat.reduceBEq,Nat.reduceBNe,Qk,Qe,Value.cells,am,mm,keep])
  have h0 : Ext H (H ++ [ABlk.own (ks.map U8)] ++ [ABlk.own (ns.map U8)]) := (by repeat first | assumption | exact Ext.refl _ | exact Ext.pre (by assumption) | exact Ext.pre (Ext.pre (by assumption)) | exact Ext.pre (Ext.pre (Ext.pre (by assumption))) | exact Ext.pre (Ext.pre (Ext.pre (Ext.pre (by assumption)))) | apply Ext.pushed | refine Ext.both ?_ _ _ | refine Ext.set ?_ _ (by omega))
  generalize H ++ [ABlk.own (ks.map U8)] ++ [ABlk.own (ns.map U8)] = H1 at *
  iterate 2 ((repeat first | refine Qo ?_ | refine Qn ?_); (first | refine awp_skip ?_ | refine Qp (by kernel_rfl) ?_); simp -implicitDefEqProofs (disch := (try simp only [sl]); try omega) only [sm,QJ,Qj,Qi,Qq,QC,bd,look,aput,QB,Qf,ty,↓reduceIte,Nat.reduceEqDiff,Nat.reduceAdd,Nat.reduceSub,Nat.reduceMul,Int.reduceLT,Int.reduceLE,Int.reduceNeg,Int.reduceToNat,reduceCtorEq,Nat.reduceBEq,Nat.reduceBNe,Qk,Qe,Value.cells,am,mm,keep, hk, hn])
  repeat first | refine Qo ?_ | refine Qn ?_
  refine awp_forK [3, 4, 5] (fun i : Nat × AH × Value => [(2, U32 (c + UInt32.ofNat i.1)), (9, i.2.2)]) (fun i : Nat × AH × Value => i.2.1) (fun i : Nat × AH × Value => 64 * i.1 < n + 64 ∧ Keeps H1.length H1 i.2.1 ∧ OS H1.length i.2.1 i.2.2 ((blocksB ks ns c i.1).map U8)) (fun i : Nat × AH × Value => n + 64 - 64 * i.1) ((0, H1, .slice none 0 0)) (⟨by omega, Keeps.refl _ _, OS.nil _ _⟩) (by repeat first | exact Forgets.nil | refine Forgets.cons (by first | (simp only [look, ↓reduceIte, Nat.reduceEqDiff]; done) | (simp only [look, ↓reduceIte, Nat.reduceEqDiff]; rfl) | simp [look]) ?_) rfl ?_
  rintro ⟨j, H2, s⟩ ⟨hj, k2, o2⟩
  simp only [] at hj k2 o2 ⊢
  have hbl := blocksB_length ks ns c j
  have ls := alen_sl (P := Try.prog) (T := 26) (by simp only [ty]) o2.sl
  rw [List.length_map, hbl] at ls
  try simp -implicitDefEqProofs (disch := (try simp only [sl]); try omega) only [sm,QJ,Qj,Qi,Qq,QC,bd,look,aput,QB,Qf,ty,↓reduceIte,Nat.reduceEqDiff,Nat.reduceAdd,Nat.reduceSub,Nat.reduceMul,Int.reduceLT,Int.reduceLE,Int.reduceNeg,Int.reduceToNat,reduceCtorEq,Nat.reduceBEq,Nat.reduceBNe,Qk,Qe,Value.cells,am,mm,keep, hk, hn]
  iterate 1 ((repeat first | refine Qo ?_ | refine Qn ?_); (first | refine Qp (by kernel_rfl) ?_); simp -implicitDefEqProofs (disch := (try simp only [sl]); try omega) only [sm,QJ,Qj,Qi,Qq,QC,bd,look,aput,QB,Qf,QI,abin,anil,ty,↓reduceIte,Nat.reduceEqDiff,Nat.reduceAdd,Nat.reduceSub,Nat.reduceMul,Int.reduceLT,Int.reduceLE,Int.reduceNeg,Int.reduceToNat,reduceCtorEq,Nat.reduceBEq,Nat.reduceBNe,Qk,Qe,Value.cells,am,mm,keep, hk, hn, ls])
  have x2 := k2.ext (Nat.le_refl _) (Ext.refl _)
  repeat first | refine Qo ?_ | refine Qn ?_
  refine awp_if _ rfl (by simp only [aeval_tmp, look, ↓reduceIte, Nat.reduceEqDiff]; exact rfl) ?_ ?_
  · intro h
    try simp only [ge_iff_le, gt_iff_lt, decide_eq_true_eq, decide_eq_false_iff_not, Nat.not_lt, Int.not_lt, Nat.not_le, Int.not_le, Bool.and_eq_true, Bool.or_eq_true, Bool.or_eq_false_iff, bne_iff_ne, ne_eq, beq_iff_eq, bne_eq_false_iff_eq, beq_eq_false_iff_ne, Bool.not_eq_true, Bool.not_eq_false, Bool.not_eq_eq_eq_not, Bool.not_true, Bool.not_false, Nat.not_le, Int.ofNat_lt, Int.ofNat_le, Int.natCast_inj] at h
    have b0 := (x2 _ _ a0)
    have b1 := (x2 _ _ a1)
    have c0 := AH.cells_own b0
    have c1 := AH.cells_own b1
    iterate 2 ((repeat first | refine Qo ?_ | refine Qn ?_); (first | refine awp_skip ?_ | refine Qp (by kernel_rfl) ?_); simp -implicitDefEqProofs (disch := (try simp only [sl]); try omega) only [sm,QJ,Qj,Qi,Qq,QC,Qz,bd,QF,look,aput,Qm,QB,Qf,QA,ty,↓reduceIte,Nat.reduceEqDiff,Nat.reduceAdd,Nat.reduceSub,Nat.reduceMul,Int.reduceLT,Int.reduceLE,Int.reduceNeg,Int.reduceToNat,reduceCtorEq,Nat.reduceBEq,Nat.reduceBNe,Qk,Qe,Value.cells,am,mm,keep, hk, hn, c0, c1])
    refine ACalls.mono (refblock_calls ks ns (c + UInt32.ofNat j) H2 hk hn) ?_
    rintro _ H3 ⟨rfl, e3⟩
    have hkl := blockB_length ks ns (c + UInt32.ofNat j)
    have hsu : blocksB ks ns c (j + 1) = blocksB ks ns c j ++ blockB ks ns (c + UInt32.ofNat j) := rfl
    generalize blockB ks ns (c + UInt32.ofNat j) = bk at *
    try simp -implicitDefEqProofs (disch := (try simp only [sl]); try omega) only [sm,QJ,Qj,Qi,Qq,QC,Qz,bd,QF,look,aput,Qm,QB,Qf,QA,ty,↓reduceIte,Nat.reduceEqDiff,Nat.reduceAdd,Nat.reduceSub,Nat.reduceMul,Int.reduceLT,Int.reduceLE,Int.reduceNeg,Int.reduceToNat,reduceCtorEq,Nat.reduceBEq,Nat.reduceBNe,Qk,Qe,Value.cells,am,mm,keep, hk, hn, hkl]
    have l3 := e3.length
    obtain ⟨s4, H4, ha, o4, k4⟩ := OS.app (P := Try.prog) (t := 26) (tx := 26) (bytes := 1) (by simp only [ty]) (by simp only [ty]) ((o2.mono e3).mono (Ext.push H3 [.own (bk.map U8)])) (SL.whole (e := 0) 64 (cat H3 (bk.map U8) _ rfl) hkl.symm) (all8 bk) (by rw [List.length_map, List.length_map]; omega) (by decide) (by rw [List.length_append]; have := k2.1; omega)
    have kk : Keeps H1.length H2 H4 := ((Keeps.of_ext e3 k2.1).push k2.1 [.own (bk.map U8)]).trans k4
    iterate 2 ((repeat first | refine Qo ?_ | refine Qn ?_); (first | refine Qp (by kernel_rfl) ?_); simp -implicitDefEqProofs (disch := (try simp only [sl]); try omega) only [sm,QJ,Qj,Qi,Qq,QC,bd,look,aput,Qm,QB,Qf,QI,abin,anil,Qr,aslice3,asl3,loN,hiN,ty,↓reduceIte,Nat.reduceEqDiff,Nat.reduceAdd,Nat.reduceSub,Nat.reduceMul,Int.reduceLT,Int.reduceLE,Int.reduceNeg,Int.reduceToNat,reduceCtorEq,Nat.reduceBEq,Nat.reduceBNe,Qk,Qe,Value.cells,am,mm,keep, hk, hn, ha, hkl])
    have ec : c + UInt32.ofNat j + 1 = c + UInt32.ofNat (j + 1) := by rw [UInt32.ofNat_add, UInt32.add_assoc]; rfl
    rw [ec]
    refine ⟨(j + 1, H4, s4), ⟨by simp only []; omega, k2.trans kk, by rw [hsu, List.map_append]; exact o4⟩, (by repeat first | exact Forgets.nil | refine Forgets.cons (by first | (simp only [look, ↓reduceIte, Nat.reduceEqDiff]; done) | (simp only [look, ↓reduceIte, Nat.reduceEqDiff]; rfl) | simp [look]) ?_), ?_⟩
    first | omega | exact ⟨rfl, by omega⟩ | exact ⟨rfl, by simp only []; omega⟩ | (simp only []; omega)
  intro h
  try simp only [ge_iff_le, gt_iff_lt, decide_eq_true_eq, decide_eq_false_iff_not, Nat.not_lt, Int.not_lt, Nat.not_le, Int.not_le, Bool.and_eq_true, Bool.or_eq_true, Bool.or_eq_false_iff, bne_iff_ne, ne_eq, beq_iff_eq, bne_eq_false_iff_eq, beq_eq_false_iff_ne, Bool.not_eq_true, Bool.not_eq_false, Bool.not_eq_eq_eq_not, Bool.not_true, Bool.not_false, Nat.not_le, Int.ofNat_lt, Int.ofNat_le, Int.natCast_inj] at h
  by_cases hn0 : n = 0
  · subst hn0
    obtain rfl : j = 0 := by omega
    rcases o2 with ⟨rfl, -⟩ | ⟨g, rfl, hg, -⟩
    · -- exit R8
      iterate 2 ((repeat first | refine Qo ?_ | refine Qn ?_); (first | refine awp_exit ?_ | refine Qp (by kernel_rfl) ?_); simp -implicitDefEqProofs (disch := (try simp only [sl]); try omega) only [sm,QJ,Qj,Qi,Qq,QC,bd,look,aput,QB,Qf,Qr,aslice3,asl3,loN,hiN,ty,↓reduceIte,Nat.reduceEqDiff,Nat.reduceAdd,Nat.reduceSub,Nat.reduceMul,Int.reduceLT,Int.reduceLE,Int.reduceNeg,Int.reduceToNat,reduceCtorEq,Nat.reduceBEq,Nat.reduceBNe,Qk,Qe,Value.cells,am,mm,keep, hk, hn])
      first | refine awp_ret ?_ | skip
      show ∃ v, aresults Try.prog Try.f44 _ _ = some v ∧ _
      rw [aresults_1 (r := .tmp 8) (by kernel_rfl)]
      simp -implicitDefEqProofs (disch := (try simp only [sl]); try omega) only [aresult, Option.some.injEq, exists_eq_left', sm,Qj,Qi,Qq,QC,Qz,bd,QF,look,aput,QB,Qf,QA,ty,↓reduceIte,Nat.reduceEqDiff,Nat.reduceAdd,Nat.reduceSub,Nat.reduceMul,Int.reduceLT,Int.reduceLE,Int.reduceNeg,Int.reduceToNat,reduceCtorEq,Nat.reduceBEq,Nat.reduceBNe,Qk,Qe,Value.cells,am,mm,keep, hk, hn]
      exact ⟨.inl ⟨rfl, rfl⟩, h0.trans x2⟩
    · -- (cursor back)
      iterate 2 ((repeat first | refine Qo ?_ | refine Qn ?_); (first | refine awp_exit ?_ | refine Qp (by kernel_rfl) ?_); simp -implicitDefEqProofs (disch := (try simp only [sl]); try omega) only [sm,QJ,Qj,Qi,Qq,QC,bd,look,aput,QB,Qf,Qr,aslice3,asl3,loN,hiN,ty,↓reduceIte,Nat.reduceEqDiff,Nat.reduceAdd,Nat.reduceSub,Nat.reduceMul,Int.reduceLT,Int.reduceLE,Int.reduceNeg,Int.reduceToNat,reduceCtorEq,Nat.reduceBEq,Nat.reduceBNe,Qk,Qe,Value.cells,am,mm,keep, hk, hn])
      first | refine awp_ret ?_ | skip
      show ∃ v, aresults Try.prog Try.f44 _ _ = some v ∧ _
      rw [aresults_1 (r := .tmp 8) (by kernel_rfl)]
      simp -implicitDefEqProofs (disch := (try simp only [sl]); try omega) only [aresult, Option.some.injEq, exists_eq_left', sm,Qj,Qi,Qq,QC,Qz,bd,QF,look,aput,QB,Qf,QA,ty,↓reduceIte,Nat.reduceEqDiff,Nat.reduceAdd,Nat.reduceSub,Nat.reduceMul,Int.reduceLT,Int.reduceLE,Int.reduceNeg,Int.reduceToNat,reduceCtorEq,Nat.reduceBEq,Nat.reduceBNe,Qk,Qe,Value.cells,am,mm,keep, hk, hn]
      exact ⟨.inr ⟨g, 0, _, rfl, .inl rfl⟩, h0.trans x2⟩
  · obtain ⟨g, rfl, hg, hgb, hgl⟩ := o2.at (by rw [List.length_map, hbl]; omega)
    rw [List.length_map, hbl]
    iterate 2 ((repeat first | refine Qo ?_ | refine Qn ?_); (first | refine awp_exit ?_ | refine Qp (by kernel_rfl) ?_); simp -implicitDefEqProofs (disch := (try simp only [sl]); try omega) only [sm,QJ,Qj,Qi,Qq,QC,bd,look,aput,QB,Qf,Qr,aslice3,asl3,loN,hiN,ty,↓reduceIte,Nat.reduceEqDiff,Nat.reduceAdd,Nat.reduceSub,Nat.reduceMul,Int.reduceLT,Int.reduceLE,Int.reduceNeg,Int.reduceToNat,reduceCtorEq,Nat.reduceBEq,Nat.reduceBNe,Qk,Qe,Value.cells,am,mm,keep, hk, hn])
    first | refine awp_ret ?_ | skip
    show ∃ v, aresults Try.prog Try.f44 _ _ = some v ∧ _
    rw [aresults_1 (r := .tmp 8) (by kernel_rfl)]
    simp -implicitDefEqProofs (disch := (try simp only [sl]); try omega) only [aresult, Option.some.injEq, exists_eq_left', sm,Qj,Qi,Qq,QC,Qz,bd,QF,look,aput,QB,Qf,QA,ty,↓reduceIte,Nat.reduceEqDiff,Nat.reduceAdd,Nat.reduceSub,Nat.reduceMul,Int.reduceLT,Int.reduceLE,Int.reduceNeg,Int.reduceToNat,reduceCtorEq,Nat.reduceBEq,Nat.reduceBNe,Qk,Qe,Value.cells,am,mm,keep, hk, hn]
    refine ⟨?_, h0.trans x2⟩
    rw [← blocksB_take ks ns c j n h]
    have := SL.part (o := 0) (e := 1) (f := U8) n (AH.cells_own hg) (by rw [hbl]; omega)
    rwa [List.drop_zero] at this
set_option maxHeartbeats 4000000 in
theorem refstream_none (ks ns : List UInt8) (c : UInt32) (n : Int) (H : AH) (hk : ks.length = 32) (hn : ns.length = 12) (hl : n < 0 ∨ 1048576 < n) :
    ACalls Try.prog 44 #[.agg (ks.map U8).toArray, .agg (ns.map U8).toArray, U32 c, .int .i64 n] H fun v H' => v = .slice none 0 0 ∧ Ext H H' := by
  by_cases hl : n < 0
  · refine acalls_of_body Try.func44 rfl Try.ntmps44 (by simp) ?_
    simp only [argsT, Nat.reduceAdd]
    iterate 2 ((repeat first | refine Qo ?_ | refine Qn ?_); (first | refine Qp (by kernel_rfl) ?_); simp -implicitDefEqProofs (disch := (try simp only [sl]); try omega) only [sm,QJ,Qj,Qi,Qq,QC,bd,look,aput,QB,Qf,QI,abin,anil,ty,↓reduceIte,Nat.reduceEqDiff,Nat.reduceAdd,Nat.reduceSub,Nat.reduceMul,Int.reduceLT,Int.reduceLE,Int.reduceNeg,Int.reduceToNat,reduceCtorEq,Nat.reduceBEq,Nat.reduceBNe,Qk,Qe,Value.cells,am,mm,keep, hk, hn, aint])
    repeat first | refine Qo ?_ | refine Qn ?_
    refine awp_if true rfl (by first | (simp only [aeval_tmp, look, ↓reduceIte, Nat.reduceEqDiff]; try rfl) | rfl) (fun _ => ?_) (fun h => absurd h (by decide))
    iterate 1 ((repeat first | refine Qo ?_ | refine Qn ?_); (first | refine Qp (by kernel_rfl) ?_); simp -implicitDefEqProofs (disch := (try simp only [sl]); try omega) only [sm,QJ,Qj,Qi,Qq,QC,bd,look,aput,QB,Qf,ty,↓reduceIte,Nat.reduceEqDiff,Nat.reduceAdd,Nat.reduceSub,Nat.reduceMul,Int.reduceLT,Int.reduceLE,Int.reduceNeg,Int.reduceToNat,reduceCtorEq,Nat.reduceBEq,Nat.reduceBNe,Qk,Qe,Value.cells,am,mm,keep])
    first | refine awp_ret ?_ | skip
    show ∃ v, aresults Try.prog Try.f44 _ _ = some v ∧ _
    rw [aresults_1 (r := .tmp 8) (by kernel_rfl)]
    simp -implicitDefEqProofs (disch := (try simp only [sl]); try omega) only [aresult, Option.some.injEq, exists_eq_left', sm,Qj,Qi,Qq,QC,Qz,bd,QF,look,aput,QB,Qf,QA,ty,↓reduceIte,Nat.reduceEqDiff,Nat.reduceAdd,Nat.reduceSub,Nat.reduceMul,Int.reduceLT,Int.reduceLE,Int.reduceNeg,Int.reduceToNat,reduceCtorEq,Nat.reduceBEq,Nat.reduceBNe,Qk,Qe,Value.cells,am,mm,keep]
    exact (by repeat first | assumption | exact Ext.refl _ | exact Ext.pre (by assumption) | exact Ext.pre (Ext.pre (by assumption)) | exact Ext.pre (Ext.pre (Ext.pre (by assumption))) | exact Ext.pre (Ext.pre (Ext.pre (Ext.pre (by assumption)))) | apply Ext.pushed | refine Ext.both ?_ _ _ | refine Ext.set ?_ _ (by omega))
  · refine acalls_of_body Try.func44 rfl Try.ntmps44 (by simp) ?_
    simp only [argsT, Nat.reduceAdd]
    iterate 2 ((repeat first | refine Qo ?_ | refine Qn ?_); (first | refine Qp (by kernel_rfl) ?_); simp -implicitDefEqProofs (disch := (try simp only [sl]); try omega) only [sm,QJ,Qj,Qi,Qq,QC,bd,look,aput,QB,Qf,QI,abin,anil,ty,↓reduceIte,Nat.reduceEqDiff,Nat.reduceAdd,Nat.reduceSub,Nat.reduceMul,Int.reduceLT,Int.reduceLE,Int.reduceNeg,Int.reduceToNat,reduceCtorEq,Nat.reduceBEq,Nat.reduceBNe,Qk,Qe,Value.cells,am,mm,keep, hk, hn, aint])
    repeat first | refine Qo ?_ | refine Qn ?_
    refine awp_if true rfl (by first | (simp only [aeval_tmp, look, ↓reduceIte, Nat.reduceEqDiff]; try rfl) | rfl) (fun _ => ?_) (fun h => absurd h (by decide))
    iterate 1 ((repeat first | refine Qo ?_ | refine Qn ?_); (first | refine Qp (by kernel_rfl) ?_); simp -implicitDefEqProofs (disch := (try simp only [sl]); try omega) only [sm,QJ,Qj,Qi,Qq,QC,bd,look,aput,QB,Qf,ty,↓reduceIte,Nat.reduceEqDiff,Nat.reduceAdd,Nat.reduceSub,Nat.reduceMul,Int.reduceLT,Int.reduceLE,Int.reduceNeg,Int.reduceToNat,reduceCtorEq,Nat.reduceBEq,Nat.reduceBNe,Qk,Qe,Value.cells,am,mm,keep])
    first | refine awp_ret ?_ | skip
    show ∃ v, aresults Try.prog Try.f44 _ _ = some v ∧ _
    rw [aresults_1 (r := .tmp 8) (by kernel_rfl)]
    simp -implicitDefEqProofs (disch := (try simp only [sl]); try omega) only [aresult, Option.some.injEq, exists_eq_left', sm,Qj,Qi,Qq,QC,Qz,bd,QF,look,aput,QB,Qf,QA,ty,↓reduceIte,Nat.reduceEqDiff,Nat.reduceAdd,Nat.reduceSub,Nat.reduceMul,Int.reduceLT,Int.reduceLE,Int.reduceNeg,Int.reduceToNat,reduceCtorEq,Nat.reduceBEq,Nat.reduceBNe,Qk,Qe,Value.cells,am,mm,keep]
    exact (by repeat first | assumption | exact Ext.refl _ | exact Ext.pre (by assumption) | exact Ext.pre (Ext.pre (by assumption)) | exact Ext.pre (Ext.pre (Ext.pre (by assumption))) | exact Ext.pre (Ext.pre (Ext.pre (Ext.pre (by assumption)))) | apply Ext.pushed | refine Ext.both ?_ _ _ | refine Ext.set ?_ _ (by omega))
theorem turnB_xor (ks ns : List UInt8) (c : UInt32) (bs : List UInt8) (i : Nat) (h : i < bs.length) : xorAt ks ns c bs i = bs.getD i 0 ^^^ (streamB ks ns c bs.length).getD i 0 := by
  have e1 : (zb bs.length).getD i 0 = 0 := by rw [zb, List.getD_eq_getElem?_getD, List.getElem?_replicate, if_pos h]; rfl
  have e2 : (streamB ks ns c bs.length).getD i 0 = xorAt ks ns c (zb bs.length) i := by
    rw [streamB, turnB, List.getD_eq_getElem?_getD, List.getElem?_map, List.getElem?_range (by rw [zb, List.length_replicate]; exact h)]; rfl
  rw [e2, xorAt, xorAt, e1, UInt8.zero_xor]
set_option maxHeartbeats 4000000 in
theorem refturn_calls (ks ns : List UInt8) (c : UInt32) (v : Value) (bs : List UInt8) (H : AH) (hk : ks.length = 32) (hn : ns.length = 12) (h : SL H v (bs.map U8)) (hl : bs.length ≤ 1048576) :
    ACalls Try.prog 30 #[.agg (ks.map U8).toArray, .agg (ns.map U8).toArray, U32 c, v] H fun v H' => SL H' v ((turnB ks ns c bs).map U8) ∧ Ext H H' := by
  have lv := alen_sl (P := Try.prog) (T := 26) (by simp only [ty]) h
  rw [List.length_map] at lv
  have hmin : (if 1048576 < bs.length then (1048576 : Int) else (bs.length : Int)) = bs.length := by rw [if_neg (by omega)]
  have hmin2 : min bs.length 1048576 = bs.length := Nat.min_eq_left hl
  have hmin3 : min 1048576 bs.length = bs.length := Nat.min_eq_right hl
  refine acalls_of_body Try.func30 rfl Try.ntmps30 (by simp) ?_
  simp only [argsT, Nat.reduceAdd]
  iterate 2 ((repeat first | refine Qo ?_ | refine Qn ?_); (first | refine Qp (by kernel_rfl) ?_); simp -implicitDefEqProofs (disch := (try simp only [sl]); try omega) only [sm,QJ,Qj,Qi,Qq,QC,Qz,bd,QF,look,aput,Qm,QB,Qf,QA,Ql,QD,QE,ty,↓reduceIte,Nat.reduceEqDiff,Nat.reduceAdd,Nat.reduceSub,Nat.reduceMul,Int.reduceLT,Int.reduceLE,Int.reduceNeg,Int.reduceToNat,reduceCtorEq,Nat.reduceBEq,Nat.reduceBNe,Qk,Qe,Value.cells,am,mm,keep, hk, hn, lv, hmin, hmin2, hmin3])
  generalize hH1 : H ++ [ABlk.own (ks.map U8)] ++ [ABlk.own (ns.map U8)] = H1
  have h0 : Ext H H1 := by rw [← hH1]; exact (by repeat first | assumption | exact Ext.refl _ | exact Ext.pre (by assumption) | exact Ext.pre (Ext.pre (by assumption)) | exact Ext.pre (Ext.pre (Ext.pre (by assumption))) | exact Ext.pre (Ext.pre (Ext.pre (Ext.pre (by assumption)))) | apply Ext.pushed | refine Ext.both ?_ _ _ | refine Ext.set ?_ _ (by omega))
  refine ACalls.mono (refstream_calls ks ns c bs.length H1 hk hn hl) ?_
  rintro sv H2 ⟨hs, e2⟩
  have h2 := (h.mono h0).mono e2
  obtain ⟨s3, H3, ha, o3, k3⟩ := OS.app (P := Try.prog) (t := 26) (tx := 26) (bytes := 1) (by simp only [ty]) (by simp only [ty]) (OS.nil H2.length H2) h2 (all8 bs) (by rw [List.length_map, List.length_nil]; omega) (by decide) (Nat.le_refl _)
  rw [List.nil_append] at o3
  iterate 2 ((repeat first | refine Qo ?_ | refine Qn ?_); (first | refine Qp (by kernel_rfl) ?_); simp -implicitDefEqProofs (disch := (try simp only [sl]); try omega) only [sm,QJ,Qj,Qi,Qq,QC,bd,look,aput,Qm,QB,Qf,ty,↓reduceIte,Nat.reduceEqDiff,Nat.reduceAdd,Nat.reduceSub,Nat.reduceMul,Int.reduceLT,Int.reduceLE,Int.reduceNeg,Int.reduceToNat,reduceCtorEq,Nat.reduceBEq,Nat.reduceBNe,Qk,Qe,Value.cells,am,mm,keep, hk, hn, lv, hmin, hmin2, hmin3, ha])
  have hsl := streamB_length ks ns c bs.length
  have ls : ∀ H', Keeps H2.length H2 H' → SL H' sv ((streamB ks ns c bs.length).map U8) ∧ SL H' v (bs.map U8) := fun H' k => ⟨hs.mono (k.ext (Nat.le_refl _) (Ext.refl _)), h2.mono (k.ext (Nat.le_refl _) (Ext.refl _))⟩
  have lsv := alen_sl (P := Try.prog) (T := 26) (by simp only [ty]) hs
  rw [List.length_map, hsl] at lsv
  repeat first | refine Qo ?_ | refine Qn ?_
  refine awp_forK [3, 9, 10] (fun i : Nat × AH => [(11, I64 i.1)]) (fun i : Nat × AH => i.2) (fun i : Nat × AH => i.1 ≤ bs.length ∧ Keeps H2.length H2 i.2 ∧ OS H2.length i.2 s3 ((fillL (xorAt ks ns c bs) bs i.1).map U8)) (fun i : Nat × AH => bs.length - i.1) ((0, H3)) (⟨by omega, k3, o3⟩) (by repeat first | exact Forgets.nil | refine Forgets.cons (by first | (simp only [look, ↓reduceIte, Nat.reduceEqDiff]; done) | (simp only [look, ↓reduceIte, Nat.reduceEqDiff]; rfl) | simp [look]) ?_) rfl ?_
  clear o3 k3 ha
  rintro ⟨i, H4⟩ ⟨hi, k4, o4⟩
  simp only [] at hi k4 o4 ⊢
  have hfl : (fillL (xorAt ks ns c bs) bs i).length = bs.length := fillL_length _ _ _
  try simp -implicitDefEqProofs (disch := (try simp only [sl]); try omega) only [sm,QJ,Qj,Qi,Qq,QC,bd,look,aput,QB,Qf,ty,↓reduceIte,Nat.reduceEqDiff,Nat.reduceAdd,Nat.reduceSub,Nat.reduceMul,Int.reduceLT,Int.reduceLE,Int.reduceNeg,Int.reduceToNat,reduceCtorEq,Nat.reduceBEq,Nat.reduceBNe,Qk,Qe,Value.cells,am,mm,keep]
  iterate 1 ((repeat first | refine Qo ?_ | refine Qn ?_); (first | refine Qp (by kernel_rfl) ?_); simp -implicitDefEqProofs (disch := (try simp only [sl]); try omega) only [sm,QJ,Qj,Qi,Qq,QC,bd,look,aput,QB,Qf,QI,abin,anil,ty,↓reduceIte,Nat.reduceEqDiff,Nat.reduceAdd,Nat.reduceSub,Nat.reduceMul,Int.reduceLT,Int.reduceLE,Int.reduceNeg,Int.reduceToNat,reduceCtorEq,Nat.reduceBEq,Nat.reduceBNe,Qk,Qe,Value.cells,am,mm,keep, lsv])
  repeat first | refine Qo ?_ | refine Qn ?_
  refine awp_if _ rfl (by simp only [aeval_tmp, look, ↓reduceIte, Nat.reduceEqDiff]; exact rfl) ?_ ?_
  · intro hlt
    try simp only [ge_iff_le, gt_iff_lt, decide_eq_true_eq, decide_eq_false_iff_not, Nat.not_lt, Int.not_lt, Nat.not_le, Int.not_le, Bool.and_eq_true, Bool.or_eq_true, Bool.or_eq_false_iff, bne_iff_ne, ne_eq, beq_iff_eq, bne_eq_false_iff_eq, beq_eq_false_iff_ne, Bool.not_eq_true, Bool.not_eq_false, Bool.not_eq_eq_eq_not, Bool.not_true, Bool.not_false, Nat.not_le, Int.ofNat_lt, Int.ofNat_le, Int.natCast_inj] at hlt
    obtain ⟨q1, q2⟩ := ls H4 k4
    obtain ⟨g1, o1, d1, cs1, rfl, hc1, -, -, k1, -⟩ := q1.bytes (by omega)
    obtain ⟨g2, o2, d2, cs2, rfl, hc2, -, -, k2, -⟩ := q2.bytes (by omega)
    obtain ⟨g, rfl, hg, hgb, hgl⟩ := o4.at (by rw [List.length_map, hfl]; omega)
    rw [hsl] at k1
    rw [List.length_map, hfl]
    have hx := turnB_xor ks ns c bs i hlt
    iterate 3 ((repeat first | refine Qo ?_ | refine Qn ?_); (first | refine awp_skip ?_ | refine awp_region_drawC (id := 6) [(0, []), (1, []), (2, []), (3, []), (4, []), (5, []), (6, []), (7, []), (8, []), (9, []), (10, []), (11, []), (12, [])] mixed (by kernel_rfl) ?_ | refine Qp (by kernel_rfl) ?_); simp -implicitDefEqProofs (disch := (try simp only [sl]); try omega) only [sm,QJ,aSel,Qu,Qv,Qw,Qx,Qy,Qj,Qi,Qq,QC,Qz,bd,QF,look,aput,Qm,QB,Qf,QI,abin,anil,Qb,QA,ty,↓reduceIte,Nat.reduceEqDiff,Nat.reduceAdd,Nat.reduceSub,Nat.reduceMul,Int.reduceLT,Int.reduceLE,Int.reduceNeg,Int.reduceToNat,reduceCtorEq,Nat.reduceBEq,Nat.reduceBNe,Qk,Qe,Value.cells,am,mm,keep, hc1, hc2, k1, k2, hsl, hfl, hg])
    rw [← hx, show (fillL (xorAt ks ns c bs) bs i).set i (xorAt ks ns c bs i) = fillL (xorAt ks ns c bs) bs (i + 1) from rfl]
    refine ⟨(i + 1, H4.set g (.own ((fillL (xorAt ks ns c bs) bs (i + 1)).map U8))), ⟨by simp only []; omega, Keeps.set k4 hgb _, OS.setn hg hgb (by rw [List.length_map, fillL_length])⟩, (by repeat first | exact Forgets.nil | refine Forgets.cons (by first | (simp only [look, ↓reduceIte, Nat.reduceEqDiff]; done) | (simp only [look, ↓reduceIte, Nat.reduceEqDiff]; rfl) | simp [look]) ?_), ?_⟩
    first | omega | exact ⟨rfl, by omega⟩ | exact ⟨rfl, by simp only []; omega⟩ | (simp only []; omega)
  intro hge
  try simp only [ge_iff_le, gt_iff_lt, decide_eq_true_eq, decide_eq_false_iff_not, Nat.not_lt, Int.not_lt, Nat.not_le, Int.not_le, Bool.and_eq_true, Bool.or_eq_true, Bool.or_eq_false_iff, bne_iff_ne, ne_eq, beq_iff_eq, bne_eq_false_iff_eq, beq_eq_false_iff_ne, Bool.not_eq_true, Bool.not_eq_false, Bool.not_eq_eq_eq_not, Bool.not_true, Bool.not_false, Nat.not_le, Int.ofNat_lt, Int.ofNat_le, Int.natCast_inj] at hge
  obtain rfl : i = bs.length := by omega
  rw [fillL_all _ _ _ rfl] at o4
  iterate 2 ((repeat first | refine Qo ?_ | refine Qn ?_); (first | refine awp_exit ?_ | refine Qp (by kernel_rfl) ?_); simp -implicitDefEqProofs (disch := (try simp only [sl]); try omega) only [sm,QJ,Qj,Qi,Qq,QC,bd,look,aput,QB,Qf,ty,↓reduceIte,Nat.reduceEqDiff,Nat.reduceAdd,Nat.reduceSub,Nat.reduceMul,Int.reduceLT,Int.reduceLE,Int.reduceNeg,Int.reduceToNat,reduceCtorEq,Nat.reduceBEq,Nat.reduceBNe,Qk,Qe,Value.cells,am,mm,keep])
  first | refine awp_ret ?_ | skip
  show ∃ v, aresults Try.prog Try.f30 _ _ = some v ∧ _
  rw [aresults_1 (r := .tmp 8) (by kernel_rfl)]
  simp -implicitDefEqProofs (disch := (try simp only [sl]); try omega) only [aresult, Option.some.injEq, exists_eq_left', sm,Qj,Qi,Qq,QC,Qz,bd,QF,look,aput,QB,Qf,QA,ty,↓reduceIte,Nat.reduceEqDiff,Nat.reduceAdd,Nat.reduceSub,Nat.reduceMul,Int.reduceLT,Int.reduceLE,Int.reduceNeg,Int.reduceToNat,reduceCtorEq,Nat.reduceBEq,Nat.reduceBNe,Qk,Qe,Value.cells,am,mm,keep]
  exact ⟨o4.sl, h0.trans (k4.ext e2.length e2)⟩
end Go.Proofs.Ytpiaohajbbdpdaa
