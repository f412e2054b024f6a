/- node: Set; what the document says of it. -/
import Derived.Test.YtfhbieimffjjkaaDoorNd8
namespace Go.Proofs.YtfhbieimffjjkaaDoor
open Go Go.RowKit
--hide
set_option linter.unusedSimpArgs false
set_option linter.unusedVariables false
set_option maxRecDepth 4000
def stE (page : List UInt8) (a : Int) (r : Rf) : Int := if gtE page a = 0 then (if plx r then 0 else 1) else gtE page a
def stB (page : List UInt8) (a : Int) (r : Rf) : List UInt8 := if stE page a r = 0 then pgB ((alL page).set a.toNat r) else []
theorem gtE_ok {page : List UInt8} {a : Int} (h : gtE page a = 0) : okG page ∧ alE page = 0 ∧ ∃ k : Nat, a = (k : Int) ∧ k < (alL page).length := by
  unfold gtE at h
  rcases alE_cases page with ⟨hG, he⟩ | ⟨hL, he⟩
  · rw [if_pos he] at h
    split at h
    · rename_i hb
      obtain ⟨k, rfl⟩ := Int.eq_ofNat_of_zero_le hb.1
      exact ⟨hG, he, k, rfl, by omega⟩
    · cases h
  · exfalso
    rcases he with h1 | h1 <;> (rw [h1] at h; cases h)
theorem copy_into {P : Program} {H : AH} {t tx : TypeId} {bytes g o n e : Nat} {v : Value} {vs cs : List Value} (he : elemT P t = some (1, bytes)) (ht : sliceT P tx = true) (h : SL H v vs) (hv : vs.all cellv = true) (hg : H[g]? = some (.own cs)) (hn : vs.length ≤ n) (hl : o + vs.length ≤ cs.length) (h0 : 2 ≤ vs.length) :
    acopy P H t tx (.slice (some ⟨g, o, none⟩) n e) v = some (.int .i64 vs.length, H.set g (.own (cs.take o ++ vs ++ cs.drop (o + vs.length)))) := by
  have hmin : min vs.length n = vs.length := Nat.min_eq_left hn
  unfold acopy
  simp only [he, asrc_sl ht h hv, hmin, hg, Nat.mul_one, List.take_length]
  rw [if_neg (by omega), if_pos ⟨hl, hv⟩, ovr_mid _ _ _ h0]
  congr 3
  omega
theorem set_page {page : List UInt8} (hG : okG page) (k : Nat) (hk : k < (alL page).length) (r : Rf) (hr : rwf r) : (page.map U8).take (1 + 37 * k) ++ (lyx r).map U8 ++ (page.map U8).drop (1 + 37 * k + 37) = (pgB ((alL page).set k r)).map U8 := by
  rw [pgB_set (alL_wf page) k hk r hr, (pgB_alL hG).2.2]
  simp only [List.map_append, List.map_take, List.map_drop]
theorem rcx_0 (x : Rf) : (rcx x)[0]? = some (.int .i64 x.1) := rfl
set_option maxHeartbeats 8000000 in
theorem nset_calls (v : Value) (page : List UInt8) (a : Int) (r : Rf) (H : AH) (hv : SL H v (page.map U8)) (hm : page.length ≤ 1000) (hr : rwf r) :
    ACalls Tryd.prog 55 #[v, .int .i64 a, .agg (rcx r).toArray] H fun w H' => (∃ x, w = .tuple #[x, .int .i64 (stE page a r)] ∧ OS H.length H' x ((stB page a r).map U8)) ∧ Ext H H' := by
  have zl := rcx_length rz_wf
  have hra := rcx_cellv
  have rl := rcx_length hr
  have rt := rcx_take hr
  have r0 := rcx_0 r
  have zRx : [Value.int .i64 0, Value.int .u32 0, Value.int .u8 0, Value.int .u8 0, Value.int .u8 0, Value.int .u8 0, Value.int .u8 0, Value.int .u8 0, Value.int .u8 0, Value.int .u8 0, Value.int .u8 0, Value.int .u8 0, Value.int .u8 0, Value.int .u8 0, Value.int .u8 0, Value.int .u8 0, Value.int .u8 0, Value.int .u8 0, Value.int .u8 0, Value.int .u8 0, Value.int .u8 0, Value.int .u8 0, Value.int .u8 0, Value.int .u8 0, Value.int .u8 0, Value.int .u8 0, Value.int .u8 0, Value.int .u8 0, Value.int .u8 0, Value.int .u8 0, Value.int .u8 0, Value.int .u8 0, Value.int .u8 0, Value.int .u8 0] = rcx rz := rfl
  have xl := rcx_length (gtR_wf page a)
  have xo := rcx_ovr rz_wf (gtR_wf page a)
  have fo_ : True := trivial
  have N_ := Now.start H
  have f_ := N_.has
  simp only [Has] at f_
  refine acalls_of_body Tryd.func55 rfl Tryd.ntmps55 (by simp) ?_
  simp only [argsT, Nat.reduceAdd]
  iterate 1 ((repeat first | refine Qo ?_ | refine Qn ?_); (first | (refine QK (by kernel_rfl) ?_; intro K_ hK_; simp -implicitDefEqProofs (disch := (try simp only [sl]); try omega) only [sm,QJ,Qj,Qi,Qq,QC,bd,look,aput,ty,↓reduceIte,Nat.reduceEqDiff,Nat.reduceAdd,Nat.reduceSub,Nat.reduceMul,Int.reduceLT,Int.reduceLE,Int.reduceNeg,Int.reduceToNat,reduceCtorEq,Nat.reduceBEq,Nat.reduceBNe,Qk,Qe,Value.cells,am,mm,keep, f_, fo_, aint, zl, hra, rl, rt, r0, zRx, xl, xo]; refine hK_ _ _ ?_; clear hK_ K_; repeat first | refine QL ?_ | refine QM ?_)))
  first | refine AWp.snap8 N_ ?_ | refine AWp.snap7 N_ ?_ | refine AWp.snap6 N_ ?_ | refine AWp.snap5 N_ ?_ | refine AWp.snap4 N_ ?_ | refine AWp.snap3 N_ ?_ | refine AWp.snap2 N_ ?_ | refine AWp.snap1 N_ ?_
  clear fo_; have fo_ := f_; clear f_ N_; intro H1 xH1 lH1 N_
  have f_ := N_.has
  simp only [Has] at f_
  (repeat first | refine Qo ?_ | refine Qn ?_); refine QK (by kernel_rfl) ?_; intro K_ hK_; simp -implicitDefEqProofs (disch := (try simp only [sl]); try omega) only [sm,QJ,Qj,Qi,Qq,QC,bd,look,aput,Qm,Qh,ty,↓reduceIte,Nat.reduceEqDiff,Nat.reduceAdd,Nat.reduceSub,Nat.reduceMul,Int.reduceLT,Int.reduceLE,Int.reduceNeg,Int.reduceToNat,reduceCtorEq,Nat.reduceBEq,Nat.reduceBNe,Qk,Qe,Value.cells,am,mm,keep, f_, fo_, aint, zl, hra, rl, rt, r0, zRx, xl, xo]
  refine ACalls.mono (nget_calls v page a H1 (hv.mono xH1) hm) ?_
  rintro _ H2 ⟨rfl, e2⟩
  replace N_ := N_.grow e2
  clear fo_; have fo_ := f_; clear f_
  have f_ := N_.has
  simp only [Has] at f_
  try simp -implicitDefEqProofs (disch := (try simp only [sl]); try omega) only [sm,QJ,Qj,Qi,Qq,QC,bd,look,aput,Qm,Qh,ty,↓reduceIte,Nat.reduceEqDiff,Nat.reduceAdd,Nat.reduceSub,Nat.reduceMul,Int.reduceLT,Int.reduceLE,Int.reduceNeg,Int.reduceToNat,reduceCtorEq,Nat.reduceBEq,Nat.reduceBNe,Qk,Qe,Value.cells,am,mm,keep, f_, fo_, aint, zl, hra, rl, rt, r0, zRx, xl, xo]
  try (refine hK_ _ _ ?_; clear hK_ K_; repeat first | refine QL ?_ | refine QM ?_)
  first | refine AWp.snap8 N_ ?_ | refine AWp.snap7 N_ ?_ | refine AWp.snap6 N_ ?_ | refine AWp.snap5 N_ ?_ | refine AWp.snap4 N_ ?_ | refine AWp.snap3 N_ ?_ | refine AWp.snap2 N_ ?_ | refine AWp.snap1 N_ ?_
  clear fo_; have fo_ := f_; clear f_ N_; intro H3 xH3 lH3 N_
  have f_ := N_.has
  simp only [Has] at f_
  have f3 := f_
  by_cases hE : gtE page a = 0
  · obtain ⟨hG, he, k, rfl, hk⟩ := gtE_ok hE
    have h00 : ((0 : Int) != 0) = false := rfl
    have hpl := hG.1
    have h6 : k < 6 := by have := (pgB_alL hG).2.1.1.2; omega
    iterate 1 ((repeat first | refine Qo ?_ | refine Qn ?_); (first | (refine QK (by kernel_rfl) ?_; intro K_ hK_; simp -implicitDefEqProofs (disch := (try simp only [sl]); try omega) only [sm,QJ,Qj,Qi,Qq,QC,bd,look,aput,QI,abin,anil,ty,↓reduceIte,Nat.reduceEqDiff,Nat.reduceAdd,Nat.reduceSub,Nat.reduceMul,Int.reduceLT,Int.reduceLE,Int.reduceNeg,Int.reduceToNat,reduceCtorEq,Nat.reduceBEq,Nat.reduceBNe,Qk,Qe,Value.cells,am,mm,keep, f_, fo_, f3, aint, zl, hra, rl, rt, r0, zRx, xl, xo, hE, h00]; refine hK_ _ _ ?_; clear hK_ K_; repeat first | refine QL ?_ | refine QM ?_)))
    repeat first | refine Qo ?_ | refine Qn ?_
    refine awp_if false rfl (by simp only [aeval_tmp, look, ↓reduceIte, Nat.reduceEqDiff]; try rfl) (fun h => absurd h (by decide)) (fun _ => ?_)
    by_cases hp : plx r
    · have hS : stE page (k : Int) r = 0 := by rw [stE, if_pos hE, if_pos hp]
      have hB : stB page (k : Int) r = pgB ((alL page).set k r) := by rw [stB, if_pos hS, Int.toNat_natCast]
      rw [hS, hB]
      have e01 : (r.1 != 0) = false ∨ (r.1 != 0) = true ∧ (r.1 != 1) = false := by
        rcases hp with h | h <;> rw [h]
        · exact .inl rfl
        · exact .inr ⟨rfl, rfl⟩
      have m1 : IntKind.i64.wrap (37 * (k : Int)) = ((37 * k : Nat) : Int) := by rw [wi64 _ (by omega) (by omega)]; omega
      have m2 : IntKind.i64.wrap (1 + ((37 * k : Nat) : Int)) = ((1 + 37 * k : Nat) : Int) := by rw [wi64 _ (by omega) (by omega)]; omega
      have m3 : 1 + 37 * k ≤ 256 := by omega
      have m4 : 1 + 37 * k < 256 := by omega
      rcases e01 with e0 | ⟨e0, e1⟩
      · -- skip R4
        iterate 2 ((repeat first | refine Qo ?_ | refine Qn ?_); (first | (refine QK (by kernel_rfl) ?_; intro K_ hK_; simp -implicitDefEqProofs (disch := (try simp only [sl]); try omega) only [sm,QJ,Qj,Qi,Qq,QC,Qz,bd,QF,look,aput,QI,abin,anil,Qc,QA,ty,↓reduceIte,Nat.reduceEqDiff,Nat.reduceAdd,Nat.reduceSub,Nat.reduceMul,Int.reduceLT,Int.reduceLE,Int.reduceNeg,Int.reduceToNat,reduceCtorEq,Nat.reduceBEq,Nat.reduceBNe,Qk,Qe,Value.cells,am,mm,keep, f_, fo_, f3, aint, zl, hra, rl, rt, r0, zRx, xl, xo, e0]; refine hK_ _ _ ?_; clear hK_ K_; repeat first | refine QL ?_ | refine QM ?_) | (refine awp_skip ?_; repeat first | refine QL ?_ | refine QM ?_)))
        repeat first | refine Qo ?_ | refine Qn ?_
        refine awp_if false rfl (by simp only [aeval_tmp, look, ↓reduceIte, Nat.reduceEqDiff]; try rfl) (fun h => absurd h (by decide)) (fun _ => ?_)
        iterate 1 ((repeat first | refine Qo ?_ | refine Qn ?_); (first | (refine QK (by kernel_rfl) ?_; intro K_ hK_; simp -implicitDefEqProofs (disch := (try simp only [sl]); try omega) only [sm,QJ,Qj,Qi,Qq,QC,bd,look,aput,Qm,ty,↓reduceIte,Nat.reduceEqDiff,Nat.reduceAdd,Nat.reduceSub,Nat.reduceMul,Int.reduceLT,Int.reduceLE,Int.reduceNeg,Int.reduceToNat,reduceCtorEq,Nat.reduceBEq,Nat.reduceBNe,Qk,Qe,Value.cells,am,mm,keep, f_, fo_, f3, aint, zl, hra, rl, rt, r0, zRx, xl, xo]; refine hK_ _ _ ?_; clear hK_ K_; repeat first | refine QL ?_ | refine QM ?_) | (refine awp_skip ?_; repeat first | refine QL ?_ | refine QM ?_)))
        (repeat first | refine Qo ?_ | refine Qn ?_); refine QK (by kernel_rfl) ?_; intro K_ hK_; simp -implicitDefEqProofs (disch := (try simp only [sl]); try omega) only [sm,QJ,Qj,Qi,Qq,QC,bd,look,aput,Qm,ty,↓reduceIte,Nat.reduceEqDiff,Nat.reduceAdd,Nat.reduceSub,Nat.reduceMul,Int.reduceLT,Int.reduceLE,Int.reduceNeg,Int.reduceToNat,reduceCtorEq,Nat.reduceBEq,Nat.reduceBNe,Qk,Qe,Value.cells,am,mm,keep, f_, fo_, f3, aint, zl, hra, rl, rt, r0, zRx, xl, xo]
        refine ACalls.mono (clone_calls v page H3 (hv.mono N_.ext) (by omega)) ?_
        rintro w4 H4 ⟨o4, e4⟩
        replace N_ := N_.grow e4
        clear fo_; have fo_ := f_; clear f_
        have f_ := N_.has
        simp only [Has] at f_
        obtain ⟨g4, rfl, q4, hb4, hl4⟩ := o4.at (by rw [List.length_map, hpl]; decide)
        rw [List.length_map, hpl]
        have f4 := f_
        have c4 := AH.cells_own q4
        try simp -implicitDefEqProofs (disch := (try simp only [sl]); try omega) only [sm,QJ,Qj,Qi,Qq,QC,bd,look,aput,Qm,ty,↓reduceIte,Nat.reduceEqDiff,Nat.reduceAdd,Nat.reduceSub,Nat.reduceMul,Int.reduceLT,Int.reduceLE,Int.reduceNeg,Int.reduceToNat,reduceCtorEq,Nat.reduceBEq,Nat.reduceBNe,Qk,Qe,Value.cells,am,mm,keep, f_, fo_, f3, f4, aint, zl, hra, rl, rt, r0, zRx, xl, xo, m1, m2, m3, m4, q4, c4]
        try (refine hK_ _ _ ?_; clear hK_ K_; repeat first | refine QL ?_ | refine QM ?_)
        (repeat first | refine Qo ?_ | refine Qn ?_); refine awp_region_drawK (id := 7) [(0, []), (1, []), (2, []), (3, []), (4, []), (5, []), (6, []), (7, [])] mixed (by kernel_rfl) ?_; intro K_ hK_; simp -implicitDefEqProofs (disch := (try simp only [sl]); try omega) only [sm,aSel,Qu,Qv,Qw,Qx,Qy,Qj,Qi,Qq,QC,Qz,bd,QF,look,aput,Qm,QI,abin,anil,QA,Qr,loN,hiN,ty,↓reduceIte,Nat.reduceEqDiff,Nat.reduceAdd,Nat.reduceSub,Nat.reduceMul,Int.reduceLT,Int.reduceLE,Int.reduceNeg,Int.reduceToNat,reduceCtorEq,Nat.reduceBEq,Nat.reduceBNe,Qk,Qe,Value.cells,am,mm,keep, f_, fo_, f3, f4, aint, zl, hra, rl, rt, r0, zRx, xl, xo, m1, m2, m3, m4, q4, c4]
        refine ACalls.mono (nslay_calls r H4 hr) ?_
        rintro w5 H5 ⟨s5, e5⟩
        replace N_ := N_.grow e5
        clear fo_; have fo_ := f_; clear f_
        have f_ := N_.has
        simp only [Has] at f_
        have q5 := e5 _ _ q4
        have hll := lyx_length hr
        have hcp : acopy Tryd.prog H5 22 22 (.slice (some ⟨g4, 1 + 37 * k, none⟩) (256 - (1 + 37 * k)) 1) w5 = _ := copy_into (bytes := 1) (by simp only [ty]) (by simp only [ty]) s5 (all8 _) q5 (by rw [List.length_map, hll]; omega) (by rw [List.length_map, List.length_map, hll]; omega) (by rw [List.length_map, hll]; decide)
        rw [List.length_map, hll, set_page hG k hk r hr] at hcp
        obtain ⟨H6, hH6⟩ : ∃ H6, H6 = H5.set g4 (.own ((pgB ((alL page).set k r)).map U8)) := ⟨_, rfl⟩
        rw [← hH6] at hcp
        have x6 : Ext H H6 := by rw [hH6]; exact N_.ext.set _ (by have := xH3.length; have := N_.ext.length; have := e2.length; have := xH1.length; omega)
        have q6 : H6[g4]? = some (.own ((pgB ((alL page).set k r)).map U8)) := by rw [hH6]; exact gset _ _ _ (got_lt q5)
        have hpgl := pgB_length (set_wf (alL_wf page) k r hr) (by rw [List.length_set]; exact (pgB_alL hG).2.1.1.2)
        try simp -implicitDefEqProofs (disch := (try simp only [sl]); try omega) only [sm,aSel,Qu,Qv,Qw,Qx,Qy,Qj,Qi,Qq,QC,Qz,bd,QF,look,aput,Qm,QI,abin,anil,QA,Qr,loN,hiN,ty,↓reduceIte,Nat.reduceEqDiff,Nat.reduceAdd,Nat.reduceSub,Nat.reduceMul,Int.reduceLT,Int.reduceLE,Int.reduceNeg,Int.reduceToNat,reduceCtorEq,Nat.reduceBEq,Nat.reduceBNe,Qk,Qe,Value.cells,am,mm,keep, f_, fo_, f3, f4, aint, zl, hra, rl, rt, r0, zRx, xl, xo, m1, m2, m3, m4, q4, c4, hcp]
        try (refine hK_ _ _ ?_; clear hK_ K_; repeat first | refine QL ?_ | refine QM ?_)
        iterate 1 ((repeat first | refine Qo ?_ | refine Qn ?_); (first | (refine QK (by kernel_rfl) ?_; intro K_ hK_; simp -implicitDefEqProofs (disch := (try simp only [sl]); try omega) only [sm,QJ,Qj,Qi,Qq,QC,bd,look,aput,ty,↓reduceIte,Nat.reduceEqDiff,Nat.reduceAdd,Nat.reduceSub,Nat.reduceMul,Int.reduceLT,Int.reduceLE,Int.reduceNeg,Int.reduceToNat,reduceCtorEq,Nat.reduceBEq,Nat.reduceBNe,Qk,Qe,Value.cells,am,mm,keep, f_, fo_, f3, f4, aint, zl, hra, rl, rt, r0, zRx, xl, xo, m1, m2, m3, m4, q4, c4]; refine hK_ _ _ ?_; clear hK_ K_; repeat first | refine QL ?_ | refine QM ?_)))
        first | refine awp_ret ?_ | skip
        show ∃ v, aresults Tryd.prog Tryd.f55 _ _ = some v ∧ _
        rw [aresults_2 (r := .tmp 6) (s := .tmp 7) (by kernel_rfl)]
        simp -implicitDefEqProofs (disch := (try simp only [sl]); try omega) only [aresult, Option.some.injEq, exists_eq_left', sm,Qj,Qi,Qq,QC,Qz,bd,QF,look,aput,QB,Qf,QA,ty,↓reduceIte,Nat.reduceEqDiff,Nat.reduceAdd,Nat.reduceSub,Nat.reduceMul,Int.reduceLT,Int.reduceLE,Int.reduceNeg,Int.reduceToNat,reduceCtorEq,Nat.reduceBEq,Nat.reduceBNe,Qk,Qe,Value.cells,am,mm,keep, f_, fo_, f3, f4, aint, zl, hra, rl, rt, r0, zRx, xl, xo, m1, m2, m3, m4, q4, c4]
        exact ⟨⟨_, rfl, OS.mk q6 (by have := xH3.length; have := e2.length; have := xH1.length; omega) (by rw [List.length_map, hpgl])⟩, x6⟩
      · -- extras
        iterate 2 ((repeat first | refine Qo ?_ | refine Qn ?_); (first | (refine QK (by kernel_rfl) ?_; intro K_ hK_; simp -implicitDefEqProofs (disch := (try simp only [sl]); try omega) only [sm,QJ,Qj,Qi,Qq,QC,Qz,bd,QF,look,aput,QI,abin,anil,Qc,QA,ty,↓reduceIte,Nat.reduceEqDiff,Nat.reduceAdd,Nat.reduceSub,Nat.reduceMul,Int.reduceLT,Int.reduceLE,Int.reduceNeg,Int.reduceToNat,reduceCtorEq,Nat.reduceBEq,Nat.reduceBNe,Qk,Qe,Value.cells,am,mm,keep, f_, fo_, f3, aint, zl, hra, rl, rt, r0, zRx, xl, xo, e0, e1]; refine hK_ _ _ ?_; clear hK_ K_; repeat first | refine QL ?_ | refine QM ?_) | (refine awp_skip ?_; repeat first | refine QL ?_ | refine QM ?_)))
        repeat first | refine Qo ?_ | refine Qn ?_
        refine awp_if false rfl (by simp only [aeval_tmp, look, ↓reduceIte, Nat.reduceEqDiff]; try rfl) (fun h => absurd h (by decide)) (fun _ => ?_)
        iterate 1 ((repeat first | refine Qo ?_ | refine Qn ?_); (first | (refine QK (by kernel_rfl) ?_; intro K_ hK_; simp -implicitDefEqProofs (disch := (try simp only [sl]); try omega) only [sm,QJ,Qj,Qi,Qq,QC,bd,look,aput,Qm,ty,↓reduceIte,Nat.reduceEqDiff,Nat.reduceAdd,Nat.reduceSub,Nat.reduceMul,Int.reduceLT,Int.reduceLE,Int.reduceNeg,Int.reduceToNat,reduceCtorEq,Nat.reduceBEq,Nat.reduceBNe,Qk,Qe,Value.cells,am,mm,keep, f_, fo_, f3, aint, zl, hra, rl, rt, r0, zRx, xl, xo]; refine hK_ _ _ ?_; clear hK_ K_; repeat first | refine QL ?_ | refine QM ?_) | (refine awp_skip ?_; repeat first | refine QL ?_ | refine QM ?_)))
        (repeat first | refine Qo ?_ | refine Qn ?_); refine QK (by kernel_rfl) ?_; intro K_ hK_; simp -implicitDefEqProofs (disch := (try simp only [sl]); try omega) only [sm,QJ,Qj,Qi,Qq,QC,bd,look,aput,Qm,ty,↓reduceIte,Nat.reduceEqDiff,Nat.reduceAdd,Nat.reduceSub,Nat.reduceMul,Int.reduceLT,Int.reduceLE,Int.reduceNeg,Int.reduceToNat,reduceCtorEq,Nat.reduceBEq,Nat.reduceBNe,Qk,Qe,Value.cells,am,mm,keep, f_, fo_, f3, aint, zl, hra, rl, rt, r0, zRx, xl, xo]
        refine ACalls.mono (clone_calls v page H3 (hv.mono N_.ext) (by omega)) ?_
        rintro w4 H4 ⟨o4, e4⟩
        replace N_ := N_.grow e4
        clear fo_; have fo_ := f_; clear f_
        have f_ := N_.has
        simp only [Has] at f_
        obtain ⟨g4, rfl, q4, hb4, hl4⟩ := o4.at (by rw [List.length_map, hpl]; decide)
        rw [List.length_map, hpl]
        have f4 := f_
        have c4 := AH.cells_own q4
        try simp -implicitDefEqProofs (disch := (try simp only [sl]); try omega) only [sm,QJ,Qj,Qi,Qq,QC,bd,look,aput,Qm,ty,↓reduceIte,Nat.reduceEqDiff,Nat.reduceAdd,Nat.reduceSub,Nat.reduceMul,Int.reduceLT,Int.reduceLE,Int.reduceNeg,Int.reduceToNat,reduceCtorEq,Nat.reduceBEq,Nat.reduceBNe,Qk,Qe,Value.cells,am,mm,keep, f_, fo_, f3, f4, aint, zl, hra, rl, rt, r0, zRx, xl, xo, m1, m2, m3, m4, q4, c4]
        try (refine hK_ _ _ ?_; clear hK_ K_; repeat first | refine QL ?_ | refine QM ?_)
        (repeat first | refine Qo ?_ | refine Qn ?_); refine awp_region_drawK (id := 7) [(0, []), (1, []), (2, []), (3, []), (4, []), (5, []), (6, []), (7, [])] mixed (by kernel_rfl) ?_; intro K_ hK_; simp -implicitDefEqProofs (disch := (try simp only [sl]); try omega) only [sm,aSel,Qu,Qv,Qw,Qx,Qy,Qj,Qi,Qq,QC,Qz,bd,QF,look,aput,Qm,QI,abin,anil,QA,Qr,loN,hiN,ty,↓reduceIte,Nat.reduceEqDiff,Nat.reduceAdd,Nat.reduceSub,Nat.reduceMul,Int.reduceLT,Int.reduceLE,Int.reduceNeg,Int.reduceToNat,reduceCtorEq,Nat.reduceBEq,Nat.reduceBNe,Qk,Qe,Value.cells,am,mm,keep, f_, fo_, f3, f4, aint, zl, hra, rl, rt, r0, zRx, xl, xo, m1, m2, m3, m4, q4, c4]
        refine ACalls.mono (nslay_calls r H4 hr) ?_
        rintro w5 H5 ⟨s5, e5⟩
        replace N_ := N_.grow e5
        clear fo_; have fo_ := f_; clear f_
        have f_ := N_.has
        simp only [Has] at f_
        have q5 := e5 _ _ q4
        have hll := lyx_length hr
        have hcp : acopy Tryd.prog H5 22 22 (.slice (some ⟨g4, 1 + 37 * k, none⟩) (256 - (1 + 37 * k)) 1) w5 = _ := copy_into (bytes := 1) (by simp only [ty]) (by simp only [ty]) s5 (all8 _) q5 (by rw [List.length_map, hll]; omega) (by rw [List.length_map, List.length_map, hll]; omega) (by rw [List.length_map, hll]; decide)
        rw [List.length_map, hll, set_page hG k hk r hr] at hcp
        obtain ⟨H6, hH6⟩ : ∃ H6, H6 = H5.set g4 (.own ((pgB ((alL page).set k r)).map U8)) := ⟨_, rfl⟩
        rw [← hH6] at hcp
        have x6 : Ext H H6 := by rw [hH6]; exact N_.ext.set _ (by have := xH3.length; have := N_.ext.length; have := e2.length; have := xH1.length; omega)
        have q6 : H6[g4]? = some (.own ((pgB ((alL page).set k r)).map U8)) := by rw [hH6]; exact gset _ _ _ (got_lt q5)
        have hpgl := pgB_length (set_wf (alL_wf page) k r hr) (by rw [List.length_set]; exact (pgB_alL hG).2.1.1.2)
        try simp -implicitDefEqProofs (disch := (try simp only [sl]); try omega) only [sm,aSel,Qu,Qv,Qw,Qx,Qy,Qj,Qi,Qq,QC,Qz,bd,QF,look,aput,Qm,QI,abin,anil,QA,Qr,loN,hiN,ty,↓reduceIte,Nat.reduceEqDiff,Nat.reduceAdd,Nat.reduceSub,Nat.reduceMul,Int.reduceLT,Int.reduceLE,Int.reduceNeg,Int.reduceToNat,reduceCtorEq,Nat.reduceBEq,Nat.reduceBNe,Qk,Qe,Value.cells,am,mm,keep, f_, fo_, f3, f4, aint, zl, hra, rl, rt, r0, zRx, xl, xo, m1, m2, m3, m4, q4, c4, hcp]
        try (refine hK_ _ _ ?_; clear hK_ K_; repeat first | refine QL ?_ | refine QM ?_)
        iterate 1 ((repeat first | refine Qo ?_ | refine Qn ?_); (first | (refine QK (by kernel_rfl) ?_; intro K_ hK_; simp -implicitDefEqProofs (disch := (try simp only [sl]); try omega) only [sm,QJ,Qj,Qi,Qq,QC,bd,look,aput,ty,↓reduceIte,Nat.reduceEqDiff,Nat.reduceAdd,Nat.reduceSub,Nat.reduceMul,Int.reduceLT,Int.reduceLE,Int.reduceNeg,Int.reduceToNat,reduceCtorEq,Nat.reduceBEq,Nat.reduceBNe,Qk,Qe,Value.cells,am,mm,keep, f_, fo_, f3, f4, aint, zl, hra, rl, rt, r0, zRx, xl, xo, m1, m2, m3, m4, q4, c4]; refine hK_ _ _ ?_; clear hK_ K_; repeat first | refine QL ?_ | refine QM ?_)))
        first | refine awp_ret ?_ | skip
        show ∃ v, aresults Tryd.prog Tryd.f55 _ _ = some v ∧ _
        rw [aresults_2 (r := .tmp 6) (s := .tmp 7) (by kernel_rfl)]
        simp -implicitDefEqProofs (disch := (try simp only [sl]); try omega) only [aresult, Option.some.injEq, exists_eq_left', sm,Qj,Qi,Qq,QC,Qz,bd,QF,look,aput,QB,Qf,QA,ty,↓reduceIte,Nat.reduceEqDiff,Nat.reduceAdd,Nat.reduceSub,Nat.reduceMul,Int.reduceLT,Int.reduceLE,Int.reduceNeg,Int.reduceToNat,reduceCtorEq,Nat.reduceBEq,Nat.reduceBNe,Qk,Qe,Value.cells,am,mm,keep, f_, fo_, f3, f4, aint, zl, hra, rl, rt, r0, zRx, xl, xo, m1, m2, m3, m4, q4, c4]
        exact ⟨⟨_, rfl, OS.mk q6 (by have := xH3.length; have := e2.length; have := xH1.length; omega) (by rw [List.length_map, hpgl])⟩, x6⟩
    · have hS : stE page (k : Int) r = 1 := by rw [stE, if_pos hE, if_neg hp]
      have e0 : (r.1 != 0) = true := by rw [bne_iff_ne]; exact fun h => hp (.inl h)
      have e1 : (r.1 != 1) = true := by rw [bne_iff_ne]; exact fun h => hp (.inr h)
      iterate 2 ((repeat first | refine Qo ?_ | refine Qn ?_); (first | (refine QK (by kernel_rfl) ?_; intro K_ hK_; simp -implicitDefEqProofs (disch := (try simp only [sl]); try omega) only [sm,QJ,Qj,Qi,Qq,QC,Qz,bd,QF,look,aput,QI,abin,anil,Qc,QA,ty,↓reduceIte,Nat.reduceEqDiff,Nat.reduceAdd,Nat.reduceSub,Nat.reduceMul,Int.reduceLT,Int.reduceLE,Int.reduceNeg,Int.reduceToNat,reduceCtorEq,Nat.reduceBEq,Nat.reduceBNe,Qk,Qe,Value.cells,am,mm,keep, f_, fo_, f3, aint, zl, hra, rl, rt, r0, zRx, xl, xo, e0, e1]; refine hK_ _ _ ?_; clear hK_ K_; repeat first | refine QL ?_ | refine QM ?_) | (refine awp_skip ?_; repeat first | refine QL ?_ | refine QM ?_)))
      repeat first | refine Qo ?_ | refine Qn ?_
      refine awp_if true rfl (by simp only [aeval_tmp, look, ↓reduceIte, Nat.reduceEqDiff]; try rfl) (fun _ => ?_) (fun h => absurd h (by decide))
      iterate 1 ((repeat first | refine Qo ?_ | refine Qn ?_); (first | (refine QK (by kernel_rfl) ?_; intro K_ hK_; simp -implicitDefEqProofs (disch := (try simp only [sl]); try omega) only [sm,QJ,Qj,Qi,Qq,QC,bd,look,aput,ty,↓reduceIte,Nat.reduceEqDiff,Nat.reduceAdd,Nat.reduceSub,Nat.reduceMul,Int.reduceLT,Int.reduceLE,Int.reduceNeg,Int.reduceToNat,reduceCtorEq,Nat.reduceBEq,Nat.reduceBNe,Qk,Qe,Value.cells,am,mm,keep, f_, fo_, f3, aint, zl, hra, rl, rt, r0, zRx, xl, xo]; refine hK_ _ _ ?_; clear hK_ K_; repeat first | refine QL ?_ | refine QM ?_)))
      first | refine awp_ret ?_ | skip
      show ∃ v, aresults Tryd.prog Tryd.f55 _ _ = some v ∧ _
      rw [aresults_2 (r := .tmp 6) (s := .tmp 7) (by kernel_rfl)]
      simp -implicitDefEqProofs (disch := (try simp only [sl]); try omega) only [aresult, Option.some.injEq, exists_eq_left', sm,Qj,Qi,Qq,QC,Qz,bd,QF,look,aput,QB,Qf,QA,ty,↓reduceIte,Nat.reduceEqDiff,Nat.reduceAdd,Nat.reduceSub,Nat.reduceMul,Int.reduceLT,Int.reduceLE,Int.reduceNeg,Int.reduceToNat,reduceCtorEq,Nat.reduceBEq,Nat.reduceBNe,Qk,Qe,Value.cells,am,mm,keep, f_, fo_, f3, aint, zl, hra, rl, rt, r0, zRx, xl, xo]
      rw [stB, hS, if_neg (by decide)]
      exact ⟨⟨_, rfl, OS.nil _ _⟩, N_.ext⟩
  · have hb : (gtE page a != 0) = true := by rw [bne_iff_ne]; exact hE
    have hS : stE page a r = gtE page a := by rw [stE, if_neg hE]
    iterate 1 ((repeat first | refine Qo ?_ | refine Qn ?_); (first | (refine QK (by kernel_rfl) ?_; intro K_ hK_; simp -implicitDefEqProofs (disch := (try simp only [sl]); try omega) only [sm,QJ,Qj,Qi,Qq,QC,bd,look,aput,QI,abin,anil,ty,↓reduceIte,Nat.reduceEqDiff,Nat.reduceAdd,Nat.reduceSub,Nat.reduceMul,Int.reduceLT,Int.reduceLE,Int.reduceNeg,Int.reduceToNat,reduceCtorEq,Nat.reduceBEq,Nat.reduceBNe,Qk,Qe,Value.cells,am,mm,keep, f_, fo_, f3, aint, zl, hra, rl, rt, r0, zRx, xl, xo, hb]; refine hK_ _ _ ?_; clear hK_ K_; repeat first | refine QL ?_ | refine QM ?_)))
    repeat first | refine Qo ?_ | refine Qn ?_
    refine awp_if true rfl (by simp only [aeval_tmp, look, ↓reduceIte, Nat.reduceEqDiff]; try rfl) (fun _ => ?_) (fun h => absurd h (by decide))
    iterate 1 ((repeat first | refine Qo ?_ | refine Qn ?_); (first | (refine QK (by kernel_rfl) ?_; intro K_ hK_; simp -implicitDefEqProofs (disch := (try simp only [sl]); try omega) only [sm,QJ,Qj,Qi,Qq,QC,bd,look,aput,ty,↓reduceIte,Nat.reduceEqDiff,Nat.reduceAdd,Nat.reduceSub,Nat.reduceMul,Int.reduceLT,Int.reduceLE,Int.reduceNeg,Int.reduceToNat,reduceCtorEq,Nat.reduceBEq,Nat.reduceBNe,Qk,Qe,Value.cells,am,mm,keep, f_, fo_, f3, aint, zl, hra, rl, rt, r0, zRx, xl, xo]; refine hK_ _ _ ?_; clear hK_ K_; repeat first | refine QL ?_ | refine QM ?_)))
    first | refine awp_ret ?_ | skip
    show ∃ v, aresults Tryd.prog Tryd.f55 _ _ = some v ∧ _
    rw [aresults_2 (r := .tmp 6) (s := .tmp 7) (by kernel_rfl)]
    simp -implicitDefEqProofs (disch := (try simp only [sl]); try omega) only [aresult, Option.some.injEq, exists_eq_left', sm,Qj,Qi,Qq,QC,Qz,bd,QF,look,aput,QB,Qf,QA,ty,↓reduceIte,Nat.reduceEqDiff,Nat.reduceAdd,Nat.reduceSub,Nat.reduceMul,Int.reduceLT,Int.reduceLE,Int.reduceNeg,Int.reduceToNat,reduceCtorEq,Nat.reduceBEq,Nat.reduceBNe,Qk,Qe,Value.cells,am,mm,keep, f_, fo_, f3, aint, zl, hra, rl, rt, r0, zRx, xl, xo]
    rw [stB, hS, if_neg hE]
    exact ⟨⟨_, rfl, OS.nil _ _⟩, N_.ext⟩
end Go.Proofs.YtfhbieimffjjkaaDoor
