/- anchor: what the document says of Lay. -/
import Derived.Test.YtfhbieimffjjkaaDoorAh3
namespace Go.Proofs.YtfhbieimffjjkaaDoor
open Go Go.RowKit
--hide
set_option linter.unusedSimpArgs false
set_option linter.unusedVariables false
set_option maxRecDepth 4000
theorem cv_i8 (p : Int) : IntKind.u8.wrap p = (((w64 p).toUInt8).toNat : Int) := by
  rw [wrap8, UInt64.toNat_toUInt8, w64, UInt64.toNat_ofNat']
  omega
theorem OS.lt {b : Nat} {H : AH} {v : Value} {vs : List Value} (h : OS b H v vs) : ∀ q o n e, v = .slice (some ⟨q, o, none⟩) n e → q < H.length ∧ b ≤ q := by
  intro q o n e k
  rcases h with ⟨h, _⟩ | ⟨g, h, h1, h2⟩
  · rw [h] at k; cases k
  · rw [h] at k; cases k; exact ⟨got_lt h1, h2⟩
theorem zb_snoc (n : Nat) : zb (n + 1) = zb n ++ [0] := by rw [zb, zb, List.replicate_succ']
set_option maxHeartbeats 4000000 in
theorem refalay_calls (a : An) (H : AH) (ha : a.wf) : ACalls Tryd.prog 39 #[.agg (ac a).toArray] H fun w H' => ∃ x, w = .tuple #[x, .int .i64 (layE a)] ∧ OS H.length H' x ((layA a).map U8) ∧ Ext H H' := by
  have hal := ac_length ha
  have hac := ac_cellv a
  have htk := ac_take ha
  have f0 := ac_v a
  have f1 := ac_pg a
  have f2 := ac_ep a
  have f3 := ac_hp a
  have f5 := ac_rp ha
  have f6 := ac_re ha
  have f8 := ac_cm ha
  have hw := wint64
  have hw8 := cv_i8
  have fo_ : True := trivial
  have N_ := Now.start H
  have f_ := N_.has
  simp only [Has] at f_
  refine acalls_of_body Tryd.func39 rfl Tryd.ntmps39 (by simp) ?_
  simp only [argsT, Nat.reduceAdd]
  iterate 1 ((repeat first | refine Qo ?_ | refine Qn ?_); (first | (refine QK (by kernel_rfl) ?_; intro K_ hK_; simp -implicitDefEqProofs (disch := (try simp only [sl]); try omega) only [sm,QJ,Qj,Qi,Qq,QC,bd,look,aput,ty,↓reduceIte,Nat.reduceEqDiff,Nat.reduceAdd,Nat.reduceSub,Nat.reduceMul,Int.reduceLT,Int.reduceLE,Int.reduceNeg,Int.reduceToNat,reduceCtorEq,Nat.reduceBEq,Nat.reduceBNe,Qk,Qe,Value.cells,am,mm,keep, f_, fo_, hal, hac, htk, f0, f1, f2, f3, f5, f6, f8, hw, w64_32, hw8, bd]; refine hK_ _ _ ?_; clear hK_ K_; repeat first | refine QL ?_ | refine QM ?_)))
  first | refine AWp.snap8 N_ ?_ | refine AWp.snap7 N_ ?_ | refine AWp.snap6 N_ ?_ | refine AWp.snap5 N_ ?_ | refine AWp.snap4 N_ ?_ | refine AWp.snap3 N_ ?_ | refine AWp.snap2 N_ ?_ | refine AWp.snap1 N_ ?_
  clear fo_; have fo_ := f_; clear f_ N_; intro H1 xH1 lH1 N_
  have f_ := N_.has
  simp only [Has] at f_
  (repeat first | refine Qo ?_ | refine Qn ?_); refine QK (by kernel_rfl) ?_; intro K_ hK_; simp -implicitDefEqProofs (disch := (try simp only [sl]); try omega) only [sm,QJ,Qj,Qi,Qq,QC,Qz,bd,QF,look,aput,Qm,QG,QA,ty,↓reduceIte,Nat.reduceEqDiff,Nat.reduceAdd,Nat.reduceSub,Nat.reduceMul,Int.reduceLT,Int.reduceLE,Int.reduceNeg,Int.reduceToNat,reduceCtorEq,Nat.reduceBEq,Nat.reduceBNe,Qk,Qe,Value.cells,am,mm,keep, f_, fo_, hal, hac, htk, f0, f1, f2, f3, f5, f6, f8, hw, w64_32, hw8, bd]
  refine ACalls.mono (refmay_calls a H1 ha) ?_
  rintro _ H2 ⟨rfl, e2⟩
  replace N_ := N_.grow e2
  clear fo_; have fo_ := f_; clear f_
  have f_ := N_.has
  simp only [Has] at f_
  by_cases hm : a.may
  · try simp -implicitDefEqProofs (disch := (try simp only [sl]); try omega) only [sm,QJ,Qj,Qi,Qq,QC,Qz,bd,QF,look,aput,Qm,QG,QA,ty,↓reduceIte,Nat.reduceEqDiff,Nat.reduceAdd,Nat.reduceSub,Nat.reduceMul,Int.reduceLT,Int.reduceLE,Int.reduceNeg,Int.reduceToNat,reduceCtorEq,Nat.reduceBEq,Nat.reduceBNe,Qk,Qe,Value.cells,am,mm,keep, f_, fo_, hal, hac, htk, f0, f1, f2, f3, f5, f6, f8, hw, w64_32, hw8, bd, decide_eq_true hm]
    try (refine hK_ _ _ ?_; clear hK_ K_; repeat first | refine QL ?_ | refine QM ?_)
    repeat first | refine Qo ?_ | refine Qn ?_
    refine awp_if false rfl (by simp only [aeval_tmp, look, ↓reduceIte, Nat.reduceEqDiff]; try rfl) (fun h => absurd h (by decide)) (fun _ => ?_)
    have N2 := N_
    have fA := f_
    have hA := e2.length
    iterate 1 ((repeat first | refine Qo ?_ | refine Qn ?_); (first | (refine awp_region_drawK (id := 3) [(0, []), (1, []), (2, []), (3, []), (4, []), (5, []), (6, []), (7, [1, 2]), (8, []), (9, [])] mixed (by kernel_rfl) ?_; intro K_ hK_; simp -implicitDefEqProofs (disch := (try simp only [sl]); try omega) only [sm,aSel,Qu,Qv,Qw,Qx,Qy,Qj,Qi,Qq,QC,Qz,bd,QF,look,aput,Qm,QH,Qg,Qc,QA,ty,↓reduceIte,Nat.reduceEqDiff,Nat.reduceAdd,Nat.reduceSub,Nat.reduceMul,Int.reduceLT,Int.reduceLE,Int.reduceNeg,Int.reduceToNat,reduceCtorEq,Nat.reduceBEq,Nat.reduceBNe,Qk,Qe,Value.cells,am,mm,keep, f_, fo_, fA, hal, hac, htk, f0, f1, f2, f3, f5, f6, f8, hw, w64_32, hw8, bd]; refine hK_ _ _ ?_; clear hK_ K_; repeat first | refine QL ?_ | refine QM ?_) | (refine awp_skip ?_; repeat first | refine QL ?_ | refine QM ?_)))
    (repeat first | refine Qo ?_ | refine Qn ?_); refine awp_region_drawK (id := 3) [(0, []), (1, []), (2, []), (3, []), (4, []), (5, []), (6, []), (7, [1, 2]), (8, []), (9, [])] mixed (by kernel_rfl) ?_; intro K_ hK_; simp -implicitDefEqProofs (disch := (try simp only [sl]); try omega) only [sm,aSel,Qu,Qv,Qw,Qx,Qy,Qj,Qi,Qq,QC,Qz,bd,QF,look,aput,Qm,QH,Qg,Qc,QA,ty,↓reduceIte,Nat.reduceEqDiff,Nat.reduceAdd,Nat.reduceSub,Nat.reduceMul,Int.reduceLT,Int.reduceLE,Int.reduceNeg,Int.reduceToNat,reduceCtorEq,Nat.reduceBEq,Nat.reduceBNe,Qk,Qe,Value.cells,am,mm,keep, f_, fo_, fA, hal, hac, htk, f0, f1, f2, f3, f5, f6, f8, hw, w64_32, hw8, bd]
    first | refine ACalls.snap8 N_ ?_ | refine ACalls.snap7 N_ ?_ | refine ACalls.snap6 N_ ?_ | refine ACalls.snap5 N_ ?_ | refine ACalls.snap4 N_ ?_ | refine ACalls.snap3 N_ ?_ | refine ACalls.snap2 N_ ?_ | refine ACalls.snap1 N_ ?_
    clear fo_; have fo_ := f_; clear f_ N_; intro H3 xH3 lH3 N_
    have f_ := N_.has
    simp only [Has] at f_
    have o3 : OS H2.length H3 (.slice (some ⟨H2.length, 0, none⟩) 1 1) ((numB (w64 a.v) 1).map U8) := OS.mk f_.1.2.1 (Nat.le_refl _) rfl
    refine ACalls.mono (reflow_calls (w64 a.pg) 2 H3 (by decide)) ?_
    rintro s4 H4 ⟨o4, e4⟩
    replace N_ := N_.grow e4
    clear fo_; have fo_ := f_; clear f_
    have f_ := N_.has
    simp only [Has] at f_
    have x4 : Ext H2 H4 := xH3.trans e4
    obtain ⟨s5, H5, ha5, o5, k5⟩ := OS.app (P := Tryd.prog) (t := 22) (tx := 22) (bytes := 1) (by simp only [ty]) (by simp only [ty]) (o3.mono e4) o4.sl (all8 _) (by simp only [List.length_append, List.length_map, numB_length, ha.1, ha.2.1, List.length_singleton, List.length_cons, List.length_nil, zb_length]; omega) (by decide) x4.length
    have x5 : Ext H2 H5 := k5.ext (Nat.le_refl _) x4
    rw [← List.map_append] at o5
    try simp -implicitDefEqProofs (disch := (try simp only [sl]); try omega) only [sm,aSel,Qu,Qv,Qw,Qx,Qy,Qj,Qi,Qq,QC,Qz,bd,QF,look,aput,Qm,QH,Qg,Qc,QA,ty,↓reduceIte,Nat.reduceEqDiff,Nat.reduceAdd,Nat.reduceSub,Nat.reduceMul,Int.reduceLT,Int.reduceLE,Int.reduceNeg,Int.reduceToNat,reduceCtorEq,Nat.reduceBEq,Nat.reduceBNe,Qk,Qe,Value.cells,am,mm,keep, f_, fo_, fA, hal, hac, htk, f0, f1, f2, f3, f5, f6, f8, hw, w64_32, hw8, bd, ha5]
    try (refine hK_ _ _ ?_; clear hK_ K_; repeat first | refine QL ?_ | refine QM ?_)
    have N_ := N2
    replace N_ := N_.grow x5
    clear fo_; have fo_ := f_; clear f_
    have f_ := N_.has
    simp only [Has] at f_
    clear fo_
    have fo_ := True.intro
    (repeat first | refine Qo ?_ | refine Qn ?_); refine awp_region_drawK (id := 4) [(0, []), (1, []), (2, []), (3, []), (6, []), (7, []), (8, []), (9, []), (4, [7, 8]), (5, [7, 8]), (10, []), (11, [])] mixed (by kernel_rfl) ?_; intro K_ hK_; simp -implicitDefEqProofs (disch := (try simp only [sl]); try omega) only [sm,aSel,Qu,Qv,Qw,Qx,Qy,Qj,Qi,Qq,QC,Qz,bd,QF,look,aput,Qm,QH,Qg,Qc,QA,ty,↓reduceIte,Nat.reduceEqDiff,Nat.reduceAdd,Nat.reduceSub,Nat.reduceMul,Int.reduceLT,Int.reduceLE,Int.reduceNeg,Int.reduceToNat,reduceCtorEq,Nat.reduceBEq,Nat.reduceBNe,Qk,Qe,Value.cells,am,mm,keep, f_, fo_, fA, hal, hac, htk, f0, f1, f2, f3, f5, f6, f8, hw, w64_32, hw8, bd]
    have fB := f_
    first | refine ACalls.snap8 N_ ?_ | refine ACalls.snap7 N_ ?_ | refine ACalls.snap6 N_ ?_ | refine ACalls.snap5 N_ ?_ | refine ACalls.snap4 N_ ?_ | refine ACalls.snap3 N_ ?_ | refine ACalls.snap2 N_ ?_ | refine ACalls.snap1 N_ ?_
    clear fo_; have fo_ := f_; clear f_ N_; intro H6 xH6 lH6 N_
    have f_ := N_.has
    simp only [Has] at f_
    have q6 : H6[H5.length]? = some (.own [U8 (w64 a.hp).toUInt8]) := f_.1.2.1
    refine ACalls.mono (reflow_calls a.ep.toUInt64 4 H6 (by decide)) ?_
    rintro s7 H7 ⟨o7, e7⟩
    have x7 : Ext H2 H7 := x5.trans (xH6.trans e7)
    obtain ⟨s8, H8, ha8, o8, k8, w8⟩ := OS.appK (P := Tryd.prog) (t := 22) (tx := 22) (bytes := 1) (by simp only [ty]) (by simp only [ty]) (o5.mono (xH6.trans e7)) o7.sl (all8 _) (by simp only [List.length_append, List.length_map, numB_length, ha.1, ha.2.1, List.length_singleton, List.length_cons, List.length_nil, zb_length]; omega) (by decide) x7.length
    have x8 : Ext H2 H8 := k8.ext (Nat.le_refl _) x7
    rw [← List.map_append] at o8
    have l8 : SL H8 (.slice (some ⟨H5.length, 0, none⟩) 1 1) ((numB (w64 a.hp) 1).map U8) := SL.own 1 rfl (w8 _ _ (fun o n e k => by have := o5.lt _ _ _ _ k; omega) (e7 _ _ q6))
    obtain ⟨s9, H9, ha9, o9, k9⟩ := OS.app (P := Tryd.prog) (t := 22) (tx := 22) (bytes := 1) (by simp only [ty]) (by simp only [ty]) o8 l8 (all8 _) (by simp only [List.length_append, List.length_map, numB_length, ha.1, ha.2.1, List.length_singleton, List.length_cons, List.length_nil, zb_length]; omega) (by decide) x8.length
    have x9 : Ext H2 H9 := k9.ext (Nat.le_refl _) x8
    rw [← List.map_append] at o9
    replace N_ := N_.grow e7
    clear fo_; have fo_ := f_; clear f_
    have f_ := N_.has
    simp only [Has] at f_
    have hc8 := x8.cells fA.1.2.2
    try simp -implicitDefEqProofs (disch := (try simp only [sl]); try omega) only [sm,aSel,Qu,Qv,Qw,Qx,Qy,Qj,Qi,Qq,QC,Qz,bd,QF,look,aput,Qm,QH,Qg,Qc,QA,ty,↓reduceIte,Nat.reduceEqDiff,Nat.reduceAdd,Nat.reduceSub,Nat.reduceMul,Int.reduceLT,Int.reduceLE,Int.reduceNeg,Int.reduceToNat,reduceCtorEq,Nat.reduceBEq,Nat.reduceBNe,Qk,Qe,Value.cells,am,mm,keep, fB, f_, fo_, fA, hal, hac, htk, f0, f1, f2, f3, f5, f6, f8, hw, w64_32, hw8, bd, ha8, ha9, hc8]
    try (refine hK_ _ _ ?_; clear hK_ K_; repeat first | refine QL ?_ | refine QM ?_)
    have N_ := N2
    replace N_ := N_.grow x9
    clear fo_; have fo_ := f_; clear f_
    have f_ := N_.has
    simp only [Has] at f_
    clear fo_ fB
    have fo_ := True.intro
    have o10 : OS H2.length (H9 ++ [ABlk.own [U8 (w64 a.rp).toUInt8]]) s9 _ := o9.mono (Ext.push _ _)
    have x10 : Ext H2 (H9 ++ [ABlk.own [U8 (w64 a.rp).toUInt8]]) := x9.trans (Ext.push _ _)
    have q10 : (H9 ++ [ABlk.own [U8 (w64 a.rp).toUInt8]])[H9.length]? = some (.own [U8 (w64 a.rp).toUInt8]) := gpush _ _
    have c10 := x10.cells fA.1.2.2
    obtain ⟨s11, H11, ha11, o11, k11, w11⟩ := OS.appK (P := Tryd.prog) (t := 22) (tx := 22) (bytes := 1) (by simp only [ty]) (by simp only [ty]) o10 (ac_slh (e' := 0) ha c10) (all8 _) (by simp only [List.length_append, List.length_map, numB_length, ha.1, ha.2.1, List.length_singleton, List.length_cons, List.length_nil, zb_length]; omega) (by decide) x10.length
    have x11 : Ext H2 H11 := k11.ext (Nat.le_refl _) x10
    rw [← List.map_append] at o11
    have l11 : SL H11 (.slice (some ⟨H9.length, 0, none⟩) 1 1) ((numB (w64 a.rp) 1).map U8) := SL.own 1 rfl (w11 _ _ (fun o n e k => by have := o9.lt _ _ _ _ k; omega) q10)
    obtain ⟨s12, H12, ha12, o12, k12⟩ := OS.app (P := Tryd.prog) (t := 22) (tx := 22) (bytes := 1) (by simp only [ty]) (by simp only [ty]) o11 l11 (all8 _) (by simp only [List.length_append, List.length_map, numB_length, ha.1, ha.2.1, List.length_singleton, List.length_cons, List.length_nil, zb_length]; omega) (by decide) x11.length
    have x12 : Ext H2 H12 := k12.ext (Nat.le_refl _) x11
    rw [← List.map_append] at o12
    have hc11 := x11.cells fA.1.2.2
    iterate 1 ((repeat first | refine Qo ?_ | refine Qn ?_); (first | (refine awp_region_drawK (id := 5) [(0, []), (1, []), (2, []), (4, []), (5, []), (6, []), (7, []), (3, [5, 6]), (8, []), (9, [])] mixed (by kernel_rfl) ?_; intro K_ hK_; simp -implicitDefEqProofs (disch := (try simp only [sl]); try omega) only [sm,aSel,Qu,Qv,Qw,Qx,Qy,Qj,Qi,Qq,QC,Qz,bd,QF,look,aput,Qm,QH,Qg,Qc,QA,Qr,loN,hiN,ty,↓reduceIte,Nat.reduceEqDiff,Nat.reduceAdd,Nat.reduceSub,Nat.reduceMul,Int.reduceLT,Int.reduceLE,Int.reduceNeg,Int.reduceToNat,reduceCtorEq,Nat.reduceBEq,Nat.reduceBNe,Qk,Qe,Value.cells,am,mm,keep, f_, fo_, fA, hal, hac, htk, f0, f1, f2, f3, f5, f6, f8, hw, w64_32, hw8, bd, ha11, ha12, hc11]; refine hK_ _ _ ?_; clear hK_ K_; repeat first | refine QL ?_ | refine QM ?_)))
    have N_ := N2
    replace N_ := N_.grow x12
    clear fo_; have fo_ := f_; clear f_
    have f_ := N_.has
    simp only [Has] at f_
    (repeat first | refine Qo ?_ | refine Qn ?_); refine awp_region_drawK (id := 6) [(0, []), (1, []), (2, []), (3, []), (6, []), (7, []), (4, []), (5, []), (8, []), (9, [])] mixed (by kernel_rfl) ?_; intro K_ hK_; simp -implicitDefEqProofs (disch := (try simp only [sl]); try omega) only [sm,aSel,Qu,Qv,Qw,Qx,Qy,Qj,Qi,Qq,QC,Qz,bd,QF,look,aput,Qm,QH,Qg,Qc,QA,Qr,loN,hiN,ty,↓reduceIte,Nat.reduceEqDiff,Nat.reduceAdd,Nat.reduceSub,Nat.reduceMul,Int.reduceLT,Int.reduceLE,Int.reduceNeg,Int.reduceToNat,reduceCtorEq,Nat.reduceBEq,Nat.reduceBNe,Qk,Qe,Value.cells,am,mm,keep, f_, fo_, fA, hal, hac, htk, f0, f1, f2, f3, f5, f6, f8, hw, w64_32, hw8, bd]
    refine ACalls.mono (reflow_calls a.re.toUInt64 4 H12 (by decide)) ?_
    rintro s13 H13 ⟨o13, e13⟩
    have x13 : Ext H2 H13 := x12.trans e13
    obtain ⟨s14, H14, ha14, o14, k14, w14⟩ := OS.appK (P := Tryd.prog) (t := 22) (tx := 22) (bytes := 1) (by simp only [ty]) (by simp only [ty]) (o12.mono e13) o13.sl (all8 _) (by simp only [List.length_append, List.length_map, numB_length, ha.1, ha.2.1, List.length_singleton, List.length_cons, List.length_nil, zb_length]; omega) (by decide) x13.length
    have x14 : Ext H2 H14 := k14.ext (Nat.le_refl _) x13
    rw [← List.map_append] at o14
    obtain ⟨s15, H15, ha15, o15, k15⟩ := OS.app (P := Tryd.prog) (t := 22) (tx := 22) (bytes := 1) (by simp only [ty]) (by simp only [ty]) o14 (ac_slr (e' := 0) ha (x14.cells fA.1.2.2)) (all8 _) (by simp only [List.length_append, List.length_map, numB_length, ha.1, ha.2.1, List.length_singleton, List.length_cons, List.length_nil, zb_length]; omega) (by decide) x14.length
    have x15 : Ext H2 H15 := k15.ext (Nat.le_refl _) x14
    rw [← List.map_append] at o15
    replace N_ := N_.grow e13
    clear fo_; have fo_ := f_; clear f_
    have f_ := N_.has
    simp only [Has] at f_
    have hc14 := x14.cells fA.1.2.2
    try simp -implicitDefEqProofs (disch := (try simp only [sl]); try omega) only [sm,aSel,Qu,Qv,Qw,Qx,Qy,Qj,Qi,Qq,QC,Qz,bd,QF,look,aput,Qm,QH,Qg,Qc,QA,Qr,loN,hiN,ty,↓reduceIte,Nat.reduceEqDiff,Nat.reduceAdd,Nat.reduceSub,Nat.reduceMul,Int.reduceLT,Int.reduceLE,Int.reduceNeg,Int.reduceToNat,reduceCtorEq,Nat.reduceBEq,Nat.reduceBNe,Qk,Qe,Value.cells,am,mm,keep, f_, fo_, fA, hal, hac, htk, f0, f1, f2, f3, f5, f6, f8, hw, w64_32, hw8, bd, ha14, ha15, hc14]
    try (refine hK_ _ _ ?_; clear hK_ K_; repeat first | refine QL ?_ | refine QM ?_)
    have N_ := N2
    replace N_ := N_.grow x15
    clear fo_; have fo_ := f_; clear f_
    have f_ := N_.has
    simp only [Has] at f_
    clear fo_
    have fo_ := True.intro
    (repeat first | refine Qo ?_ | refine Qn ?_); refine QK (by kernel_rfl) ?_; intro K_ hK_; simp -implicitDefEqProofs (disch := (try simp only [sl]); try omega) only [sm,QJ,Qj,Qi,Qq,QC,Qz,bd,QF,look,aput,Qm,Qc,QA,ty,↓reduceIte,Nat.reduceEqDiff,Nat.reduceAdd,Nat.reduceSub,Nat.reduceMul,Int.reduceLT,Int.reduceLE,Int.reduceNeg,Int.reduceToNat,reduceCtorEq,Nat.reduceBEq,Nat.reduceBNe,Qk,Qe,Value.cells,am,mm,keep, f_, fo_, fA, hal, hac, htk, f0, f1, f2, f3, f5, f6, f8, hw, w64_32, hw8, bd]
    refine ACalls.mono (reflow_calls a.cm 8 H15 (by decide)) ?_
    rintro s16 H16 ⟨o16, e16⟩
    have x16 : Ext H2 H16 := x15.trans e16
    obtain ⟨s17, H17, ha17, o17, k17⟩ := OS.app (P := Tryd.prog) (t := 22) (tx := 22) (bytes := 1) (by simp only [ty]) (by simp only [ty]) (o15.mono e16) o16.sl (all8 _) (by simp only [List.length_append, List.length_map, numB_length, ha.1, ha.2.1, List.length_singleton, List.length_cons, List.length_nil, zb_length]; omega) (by decide) x16.length
    have x17 : Ext H2 H17 := k17.ext (Nat.le_refl _) x16
    rw [← List.map_append] at o17
    have hcore : numB (w64 a.v) 1 ++ numB (w64 a.pg) 2 ++ numB a.ep.toUInt64 4 ++ numB (w64 a.hp) 1 ++ a.hd ++ numB (w64 a.rp) 1 ++ numB a.re.toUInt64 4 ++ a.rt ++ numB a.cm 8 = a.core := rfl
    rw [hcore] at o17
    have hcl := core_length ha
    try simp -implicitDefEqProofs (disch := (try simp only [sl]); try omega) only [sm,QJ,Qj,Qi,Qq,QC,Qz,bd,QF,look,aput,Qm,Qc,QA,ty,↓reduceIte,Nat.reduceEqDiff,Nat.reduceAdd,Nat.reduceSub,Nat.reduceMul,Int.reduceLT,Int.reduceLE,Int.reduceNeg,Int.reduceToNat,reduceCtorEq,Nat.reduceBEq,Nat.reduceBNe,Qk,Qe,Value.cells,am,mm,keep, f_, fo_, fA, hal, hac, htk, f0, f1, f2, f3, f5, f6, f8, hw, w64_32, hw8, bd, ha17]
    try (refine hK_ _ _ ?_; clear hK_ K_; repeat first | refine QL ?_ | refine QM ?_)
    repeat first | refine Qo ?_ | refine Qn ?_
    refine awp_forK [] (fun x_ : Nat × Value × AH => [(4, x_.2.1)]) (fun x_ : Nat × Value × AH => x_.2.2) (fun x_ : Nat × Value × AH => x_.1 ≤ 43 ∧ OS H2.length x_.2.2 x_.2.1 ((a.core ++ zb x_.1).map U8) ∧ Ext H2 x_.2.2) (fun x_ : Nat × Value × AH => 43 - x_.1) ((0, s17, H17)) (⟨Nat.zero_le _, by simp only [zb, List.replicate_zero, List.append_nil]; exact o17, x17⟩) (by repeat first | exact Forgets.nil | refine Forgets.cons (by first | (simp only [look, ↓reduceIte, Nat.reduceEqDiff]; done) | (simp only [look, ↓reduceIte, Nat.reduceEqDiff]; rfl) | simp [look]) ?_) rfl ?_
    rintro ⟨i, s, H3⟩ ⟨hi, o18, x18⟩
    simp only [] at hi o18 x18 ⊢
    have lv := alen_sl (P := Tryd.prog) (T := 22) (by simp only [ty]) o18.sl
    rw [List.length_map, List.length_append, hcl, zb_length] at lv
    by_cases hlt : i < 43
    · have hlt2 : 85 + i < 128 := by omega
      obtain ⟨s19, H19, ha19, o19, k19⟩ := OS.app1 (P := Tryd.prog) (t := 22) (tx := 22) (bytes := 1) (c := .int .u8 0) (by simp only [ty]) (by simp only [ty]) o18 rfl (by simp only [List.length_append, List.length_map, hcl, zb_length]; omega) (by decide) x18.length
      have x19 : Ext H2 H19 := k19.ext (Nat.le_refl _) x18
      have ho : (a.core ++ zb i).map U8 ++ [.int .u8 0] = (a.core ++ zb (i + 1)).map U8 := by rw [zb_snoc, ← List.append_assoc, List.map_append (l₂ := [0])]; rfl
      rw [ho] at o19
      iterate 1 ((repeat first | refine Qo ?_ | refine Qn ?_); (first | (refine QK (by kernel_rfl) ?_; intro K_ hK_; simp -implicitDefEqProofs (disch := (try simp only [sl]); try omega) only [sm,QJ,Qj,Qi,Qq,QC,bd,look,aput,QI,abin,anil,ty,↓reduceIte,Nat.reduceEqDiff,Nat.reduceAdd,Nat.reduceSub,Nat.reduceMul,Int.reduceLT,Int.reduceLE,Int.reduceNeg,Int.reduceToNat,reduceCtorEq,Nat.reduceBEq,Nat.reduceBNe,Qk,Qe,Value.cells,am,mm,keep, f_, fo_, fA, hal, hac, htk, f0, f1, f2, f3, f5, f6, f8, hw, w64_32, hw8, bd, lv, hlt2]; refine hK_ _ _ ?_; clear hK_ K_; repeat first | refine QL ?_ | refine QM ?_)))
      repeat first | refine Qo ?_ | refine Qn ?_
      refine awp_if true rfl (by simp only [aeval_tmp, look, ↓reduceIte, Nat.reduceEqDiff]; try rfl) (fun _ => ?_) (fun h => absurd h (by decide))
      iterate 2 ((repeat first | refine Qo ?_ | refine Qn ?_); (first | (refine QK (by kernel_rfl) ?_; intro K_ hK_; simp -implicitDefEqProofs (disch := (try simp only [sl]); try omega) only [sm,QJ,Qj,Qi,Qq,QC,bd,look,aput,Qm,ty,↓reduceIte,Nat.reduceEqDiff,Nat.reduceAdd,Nat.reduceSub,Nat.reduceMul,Int.reduceLT,Int.reduceLE,Int.reduceNeg,Int.reduceToNat,reduceCtorEq,Nat.reduceBEq,Nat.reduceBNe,Qk,Qe,Value.cells,am,mm,keep, f_, fo_, fA, hal, hac, htk, f0, f1, f2, f3, f5, f6, f8, hw, w64_32, hw8, bd, ha19]; refine hK_ _ _ ?_; clear hK_ K_; repeat first | refine QL ?_ | refine QM ?_) | (refine awp_skip ?_; repeat first | refine QL ?_ | refine QM ?_)))
      refine ⟨(i + 1, s19, H19), ⟨by simp only []; omega, o19, x19⟩, (by repeat first | exact Forgets.nil | refine Forgets.cons (by first | (simp only [look, ↓reduceIte, Nat.reduceEqDiff]; done) | (simp only [look, ↓reduceIte, Nat.reduceEqDiff]; rfl) | simp [look]) ?_), ?_⟩
      first | omega | exact ⟨rfl, by omega⟩ | exact ⟨rfl, by simp only []; omega⟩ | (simp only []; omega)
    obtain rfl : i = 43 := by omega
    iterate 1 ((repeat first | refine Qo ?_ | refine Qn ?_); (first | (refine QK (by kernel_rfl) ?_; intro K_ hK_; simp -implicitDefEqProofs (disch := (try simp only [sl]); try omega) only [sm,QJ,Qj,Qi,Qq,QC,bd,look,aput,QI,abin,anil,ty,↓reduceIte,Nat.reduceEqDiff,Nat.reduceAdd,Nat.reduceSub,Nat.reduceMul,Int.reduceLT,Int.reduceLE,Int.reduceNeg,Int.reduceToNat,reduceCtorEq,Nat.reduceBEq,Nat.reduceBNe,Qk,Qe,Value.cells,am,mm,keep, f_, fo_, fA, hal, hac, htk, f0, f1, f2, f3, f5, f6, f8, hw, w64_32, hw8, bd, lv]; refine hK_ _ _ ?_; clear hK_ K_; repeat first | refine QL ?_ | refine QM ?_)))
    repeat first | refine Qo ?_ | refine Qn ?_
    refine awp_if false rfl (by simp only [aeval_tmp, look, ↓reduceIte, Nat.reduceEqDiff]; try rfl) (fun h => absurd h (by decide)) (fun _ => ?_)
    iterate 2 ((repeat first | refine Qo ?_ | refine Qn ?_); (first | (refine QK (by kernel_rfl) ?_; intro K_ hK_; simp -implicitDefEqProofs (disch := (try simp only [sl]); try omega) only [sm,QJ,Qj,Qi,Qq,QC,bd,look,aput,ty,↓reduceIte,Nat.reduceEqDiff,Nat.reduceAdd,Nat.reduceSub,Nat.reduceMul,Int.reduceLT,Int.reduceLE,Int.reduceNeg,Int.reduceToNat,reduceCtorEq,Nat.reduceBEq,Nat.reduceBNe,Qk,Qe,Value.cells,am,mm,keep, f_, fo_, fA, hal, hac, htk, f0, f1, f2, f3, f5, f6, f8, hw, w64_32, hw8, bd]; refine hK_ _ _ ?_; clear hK_ K_; repeat first | refine QL ?_ | refine QM ?_) | (refine awp_exit ?_; (repeat first | refine aThen_exit ?_ | refine aIn_out rfl ?_); refine aIn_here ?_; repeat first | refine QL ?_ | refine QM ?_)))
    first | refine awp_ret ?_ | skip
    show ∃ v, aresults Tryd.prog Tryd.f39 _ _ = some v ∧ _
    rw [aresults_2 (r := .tmp 2) (s := .tmp 3) (by kernel_rfl)]
    simp -implicitDefEqProofs (disch := (try simp only [sl]); try omega) only [aresult, Option.some.injEq, exists_eq_left', sm,Qj,Qi,Qq,QC,Qz,bd,QF,look,aput,QB,Qf,QA,ty,↓reduceIte,Nat.reduceEqDiff,Nat.reduceAdd,Nat.reduceSub,Nat.reduceMul,Int.reduceLT,Int.reduceLE,Int.reduceNeg,Int.reduceToNat,reduceCtorEq,Nat.reduceBEq,Nat.reduceBNe,Qk,Qe,Value.cells,am,mm,keep, f_, fo_, fA, hal, hac, htk, f0, f1, f2, f3, f5, f6, f8, hw, w64_32, hw8, bd]
    rw [layE, layA, if_pos hm, if_pos hm]
    exact ⟨_, rfl, o18.low (by have := xH1.length; omega), xH1.trans (e2.trans x18)⟩
  · -- extras
    try simp -implicitDefEqProofs (disch := (try simp only [sl]); try omega) only [sm,QJ,Qj,Qi,Qq,QC,Qz,bd,QF,look,aput,Qm,QG,QA,ty,↓reduceIte,Nat.reduceEqDiff,Nat.reduceAdd,Nat.reduceSub,Nat.reduceMul,Int.reduceLT,Int.reduceLE,Int.reduceNeg,Int.reduceToNat,reduceCtorEq,Nat.reduceBEq,Nat.reduceBNe,Qk,Qe,Value.cells,am,mm,keep, f_, fo_, hal, hac, htk, f0, f1, f2, f3, f5, f6, f8, hw, w64_32, hw8, bd, decide_eq_false hm]
    try (refine hK_ _ _ ?_; clear hK_ K_; repeat first | refine QL ?_ | refine QM ?_)
    repeat first | refine Qo ?_ | refine Qn ?_
    refine awp_if true rfl (by simp only [aeval_tmp, look, ↓reduceIte, Nat.reduceEqDiff]; try rfl) (fun _ => ?_) (fun h => absurd h (by decide))
    iterate 1 ((repeat first | refine Qo ?_ | refine Qn ?_); (first | (refine QK (by kernel_rfl) ?_; intro K_ hK_; simp -implicitDefEqProofs (disch := (try simp only [sl]); try omega) only [sm,QJ,Qj,Qi,Qq,QC,bd,look,aput,ty,↓reduceIte,Nat.reduceEqDiff,Nat.reduceAdd,Nat.reduceSub,Nat.reduceMul,Int.reduceLT,Int.reduceLE,Int.reduceNeg,Int.reduceToNat,reduceCtorEq,Nat.reduceBEq,Nat.reduceBNe,Qk,Qe,Value.cells,am,mm,keep, f_, fo_, hal, hac, htk, f0, f1, f2, f3, f5, f6, f8, hw, w64_32, hw8, bd]; refine hK_ _ _ ?_; clear hK_ K_; repeat first | refine QL ?_ | refine QM ?_)))
    first | refine awp_ret ?_ | skip
    show ∃ v, aresults Tryd.prog Tryd.f39 _ _ = some v ∧ _
    rw [aresults_2 (r := .tmp 2) (s := .tmp 3) (by kernel_rfl)]
    simp -implicitDefEqProofs (disch := (try simp only [sl]); try omega) only [aresult, Option.some.injEq, exists_eq_left', sm,Qj,Qi,Qq,QC,Qz,bd,QF,look,aput,QB,Qf,QA,ty,↓reduceIte,Nat.reduceEqDiff,Nat.reduceAdd,Nat.reduceSub,Nat.reduceMul,Int.reduceLT,Int.reduceLE,Int.reduceNeg,Int.reduceToNat,reduceCtorEq,Nat.reduceBEq,Nat.reduceBNe,Qk,Qe,Value.cells,am,mm,keep, f_, fo_, hal, hac, htk, f0, f1, f2, f3, f5, f6, f8, hw, w64_32, hw8, bd]
    rw [layE, layA, if_neg hm, if_neg hm]
    exact ⟨_, rfl, OS.nil _ _, N_.ext⟩
end Go.Proofs.YtfhbieimffjjkaaDoor
