/- The statement AnchorRegisters: walked. -/
import Derived.Test.YtfhbieimffjjkaaDoorAr2
namespace Go.Proofs.YtfhbieimffjjkaaDoor
open Go Go.RowKit
--hide
--big
set_option linter.unusedSimpArgs false
set_option linter.unusedVariables false
set_option maxRecDepth 4000
def toAn (x : D55) : An := ⟨x.1, x.2.1, x.2.2.1, x.2.2.2.1, x.2.2.2.2.1, x.2.2.2.2.2.1, x.2.2.2.2.2.2.1, x.2.2.2.2.2.2.2.1, x.2.2.2.2.2.2.2.2⟩
theorem ans_arg {H : AH} {v : Value} (h : AVal Tryd.prog H 91 v) : ∃ xs : List An, SLn H v xs.length (xs.map ac).flatten ∧ (∀ a ∈ xs, a.wf) ∧ xs.length ≤ maxLen := by
  obtain ⟨⟨v, xs⟩, hv, hl, hm, hk⟩ := arg91 h
  cases hv
  refine ⟨xs.map toAn, ?_, fun a ha => ?_, by rw [List.length_map]; exact hm⟩
  · rw [List.length_map, List.map_map]; exact hl
  · obtain ⟨x, hx, rfl⟩ := List.mem_map.1 ha
    obtain ⟨kv, kp, -, kh, kd, kr, -, kt, -⟩ := hk x hx
    exact ⟨kd, kt, kv, kp, kh, kr⟩
set_option maxHeartbeats 16000000 in
theorem aregs_law : ALaw Tryd.prog 14 [91] := by
  intro H vs hro hlen hv
  match vs, hlen with
  | [v0], _ =>
  obtain ⟨xs, hl, hwf, hmx⟩ := ans_arg (hv 0 _ v0 rfl rfl)
  clear hv
  have hal : ∀ a ∈ xs, (ac a).length = 71 := fun a h => ac_length (hwf a h)
  obtain ⟨pl, el, rfl⟩ := hl.shape
  have lv : alen Tryd.prog 91 (.slice pl xs.length el) = some (.int .i64 (xs.length : Int)) := by
    rw [alen_slice, if_pos (by simp only [ty])]
  have hzl := ac_length zero_wf
  have hac := ac_cellv
  have ovz := ac_ovr zero_wf zero_wf
  have ztk := ac_take zero_wf
  have hzq := aeqa zero_wf
  have hnn : ∀ n : Int, (n != n) = false := fun n => by simp
  have hii : ∀ n : Int, (n == n) = true := fun n => by simp
  have hbb : ∀ n : Bool, (n != n) = false := fun n => by simp
  have h00 : (0 : Int) + 0 = 0 := rfl
  have hw0 : IntKind.i64.wrap 0 = 0 := rfl
  have fo_ : True := trivial
  have N_ := Now.start H
  have f_ := N_.has
  simp only [Has] at f_
  refine acalls_of_body Tryd.func14 rfl Tryd.ntmps14 (by simp) ?_
  simp only [argsT, Nat.reduceAdd]
  iterate 2 ((repeat first | refine Qo ?_ | refine Qn ?_); (first | (refine QK (by kernel_rfl) ?_; intro K_ hK_; simp -implicitDefEqProofs (maxSteps := 1000000) (disch := (try simp only [sl]); try omega) only [sm,QJ,Qj,Qi,Qq,QC,bd,look,aput,Qm,Qh,ty,↓reduceIte,Nat.reduceEqDiff,Nat.reduceAdd,Nat.reduceSub,Nat.reduceMul,Int.reduceLT,Int.reduceLE,Int.reduceNeg,Int.reduceToNat,reduceCtorEq,Nat.reduceBEq,Nat.reduceBNe,Qk,Qe,Value.cells,am,mm,keep, f_, fo_, aint, lv, zA, hzl, hac, ovz, ztk, hzq, hnn, Bool.not_true, Bool.not_false, h00, hw0]; refine hK_ _ _ ?_; clear hK_ K_; repeat first | refine QL ?_ | refine QM ?_)))
  (repeat first | refine Qo ?_ | refine Qn ?_); refine QK (by kernel_rfl) ?_; intro K_ hK_; simp -implicitDefEqProofs (maxSteps := 1000000) (disch := (try simp only [sl]); try omega) only [sm,QJ,Qj,Qi,Qq,QC,bd,look,aput,Qm,Qh,ty,↓reduceIte,Nat.reduceEqDiff,Nat.reduceAdd,Nat.reduceSub,Nat.reduceMul,Int.reduceLT,Int.reduceLE,Int.reduceNeg,Int.reduceToNat,reduceCtorEq,Nat.reduceBEq,Nat.reduceBNe,Qk,Qe,Value.cells,am,mm,keep, f_, fo_, aint, lv, zA, hzl, hac, ovz, ztk, hzq, hnn, Bool.not_true, Bool.not_false, h00, hw0]
  refine ACalls.mono (get_nil_calls H) ?_
  rintro _ H1 ⟨rfl, e1⟩
  replace N_ := N_.grow e1
  clear fo_; have fo_ := f_; clear f_
  have f_ := N_.has
  simp only [Has] at f_
  try simp -implicitDefEqProofs (maxSteps := 1000000) (disch := (try simp only [sl]); try omega) only [sm,QJ,Qj,Qi,Qq,QC,bd,look,aput,Qm,Qh,ty,↓reduceIte,Nat.reduceEqDiff,Nat.reduceAdd,Nat.reduceSub,Nat.reduceMul,Int.reduceLT,Int.reduceLE,Int.reduceNeg,Int.reduceToNat,reduceCtorEq,Nat.reduceBEq,Nat.reduceBNe,Qk,Qe,Value.cells,am,mm,keep, f_, fo_, aint, lv, zA, hzl, hac, ovz, ztk, hzq, hnn, Bool.not_true, Bool.not_false, h00, hw0]
  try (refine hK_ _ _ ?_; clear hK_ K_; repeat first | refine QL ?_ | refine QM ?_)
  first | refine AWp.snap8 N_ ?_ | refine AWp.snap7 N_ ?_ | refine AWp.snap6 N_ ?_ | refine AWp.snap5 N_ ?_ | refine AWp.snap4 N_ ?_ | refine AWp.snap3 N_ ?_ | refine AWp.snap2 N_ ?_ | refine AWp.snap1 N_ ?_
  clear fo_; have fo_ := f_; clear f_ N_; intro H2 xH2 lH2 N_
  have f_ := N_.has
  simp only [Has] at f_
  (repeat first | refine Qo ?_ | refine Qn ?_); refine QK (by kernel_rfl) ?_; intro K_ hK_; simp -implicitDefEqProofs (maxSteps := 1000000) (disch := (try simp only [sl]); try omega) only [sm,QJ,Qj,Qi,Qq,QC,Qz,bd,QF,look,aput,Qm,QI,abin,anil,QA,ty,↓reduceIte,Nat.reduceEqDiff,Nat.reduceAdd,Nat.reduceSub,Nat.reduceMul,Int.reduceLT,Int.reduceLE,Int.reduceNeg,Int.reduceToNat,reduceCtorEq,Nat.reduceBEq,Nat.reduceBNe,Qk,Qe,Value.cells,am,mm,keep, f_, fo_, aint, lv, zA, hzl, hac, ovz, ztk, hzq, hnn, Bool.not_true, Bool.not_false, h00, hw0, bd]
  refine ACalls.mono (set_nil_calls An.zero H2 zero_wf) ?_
  rintro _ H3 ⟨rfl, e3⟩
  replace N_ := N_.grow e3
  clear fo_; have fo_ := f_; clear f_
  have f_ := N_.has
  simp only [Has] at f_
  try simp -implicitDefEqProofs (maxSteps := 1000000) (disch := (try simp only [sl]); try omega) only [sm,QJ,Qj,Qi,Qq,QC,Qz,bd,QF,look,aput,Qm,QI,abin,anil,QA,ty,↓reduceIte,Nat.reduceEqDiff,Nat.reduceAdd,Nat.reduceSub,Nat.reduceMul,Int.reduceLT,Int.reduceLE,Int.reduceNeg,Int.reduceToNat,reduceCtorEq,Nat.reduceBEq,Nat.reduceBNe,Qk,Qe,Value.cells,am,mm,keep, f_, fo_, aint, lv, zA, hzl, hac, ovz, ztk, hzq, hnn, Bool.not_true, Bool.not_false, h00, hw0]
  try (refine hK_ _ _ ?_; clear hK_ K_; repeat first | refine QL ?_ | refine QM ?_)
  refine ACalls.mono (raw_nil_calls H3) ?_
  rintro _ _ ⟨rfl, hHH⟩
  rw [hHH]
  clear hHH
  simp -implicitDefEqProofs (maxSteps := 1000000) (disch := (try simp only [sl]); try omega) only [sm,QJ,Qj,Qi,Qq,QC,Qz,bd,QF,look,aput,Qm,QI,abin,anil,QA,ty,↓reduceIte,Nat.reduceEqDiff,Nat.reduceAdd,Nat.reduceSub,Nat.reduceMul,Int.reduceLT,Int.reduceLE,Int.reduceNeg,Int.reduceToNat,reduceCtorEq,Nat.reduceBEq,Nat.reduceBNe,Qk,Qe,Value.cells,am,mm,keep, f_, fo_, aint, lv, zA, hzl, hac, ovz, ztk, hzq, hnn, Bool.not_true, Bool.not_false, h00, hw0]
  try (refine hK_ _ _ ?_; clear hK_ K_; repeat first | refine QL ?_ | refine QM ?_)
  try simp -implicitDefEqProofs (maxSteps := 1000000) (disch := (try simp only [sl]); try omega) only [sm,QJ,Qj,Qi,Qq,QC,Qz,bd,QF,look,aput,Qm,QI,abin,anil,QA,ty,↓reduceIte,Nat.reduceEqDiff,Nat.reduceAdd,Nat.reduceSub,Nat.reduceMul,Int.reduceLT,Int.reduceLE,Int.reduceNeg,Int.reduceToNat,reduceCtorEq,Nat.reduceBEq,Nat.reduceBNe,Qk,Qe,Value.cells,am,mm,keep, f_, fo_, aint, lv, zA, hzl, hac, ovz, ztk, hzq, hnn, Bool.not_true, Bool.not_false, h00, hw0]
  try (refine hK_ _ _ ?_; clear hK_ K_; repeat first | refine QL ?_ | refine QM ?_)
  refine ACalls.mono (count_nil_calls H3) ?_
  rintro _ _ ⟨rfl, hHH⟩
  rw [hHH]
  clear hHH
  simp -implicitDefEqProofs (maxSteps := 1000000) (disch := (try simp only [sl]); try omega) only [sm,QJ,Qj,Qi,Qq,QC,Qz,bd,QF,look,aput,Qm,QI,abin,anil,QA,ty,↓reduceIte,Nat.reduceEqDiff,Nat.reduceAdd,Nat.reduceSub,Nat.reduceMul,Int.reduceLT,Int.reduceLE,Int.reduceNeg,Int.reduceToNat,reduceCtorEq,Nat.reduceBEq,Nat.reduceBNe,Qk,Qe,Value.cells,am,mm,keep, f_, fo_, aint, lv, zA, hzl, hac, ovz, ztk, hzq, hnn, Bool.not_true, Bool.not_false, h00, hw0]
  try (refine hK_ _ _ ?_; clear hK_ K_; repeat first | refine QL ?_ | refine QM ?_)
  try simp -implicitDefEqProofs (maxSteps := 1000000) (disch := (try simp only [sl]); try omega) only [sm,QJ,Qj,Qi,Qq,QC,Qz,bd,QF,look,aput,Qm,QI,abin,anil,QA,ty,↓reduceIte,Nat.reduceEqDiff,Nat.reduceAdd,Nat.reduceSub,Nat.reduceMul,Int.reduceLT,Int.reduceLE,Int.reduceNeg,Int.reduceToNat,reduceCtorEq,Nat.reduceBEq,Nat.reduceBNe,Qk,Qe,Value.cells,am,mm,keep, f_, fo_, aint, lv, zA, hzl, hac, ovz, ztk, hzq, hnn, Bool.not_true, Bool.not_false, h00, hw0]
  try (refine hK_ _ _ ?_; clear hK_ K_; repeat first | refine QL ?_ | refine QM ?_)
  refine ACalls.mono (epochs_nil_calls H3) ?_
  rintro _ _ ⟨rfl, hHH⟩
  rw [hHH]
  clear hHH
  simp -implicitDefEqProofs (maxSteps := 1000000) (disch := (try simp only [sl]); try omega) only [sm,QJ,Qj,Qi,Qq,QC,Qz,bd,QF,look,aput,Qm,QI,abin,anil,QA,ty,↓reduceIte,Nat.reduceEqDiff,Nat.reduceAdd,Nat.reduceSub,Nat.reduceMul,Int.reduceLT,Int.reduceLE,Int.reduceNeg,Int.reduceToNat,reduceCtorEq,Nat.reduceBEq,Nat.reduceBNe,Qk,Qe,Value.cells,am,mm,keep, f_, fo_, aint, lv, zA, hzl, hac, ovz, ztk, hzq, hnn, Bool.not_true, Bool.not_false, h00, hw0]
  try (refine hK_ _ _ ?_; clear hK_ K_; repeat first | refine QL ?_ | refine QM ?_)
  try simp -implicitDefEqProofs (maxSteps := 1000000) (disch := (try simp only [sl]); try omega) only [sm,QJ,Qj,Qi,Qq,QC,Qz,bd,QF,look,aput,Qm,QI,abin,anil,QA,ty,↓reduceIte,Nat.reduceEqDiff,Nat.reduceAdd,Nat.reduceSub,Nat.reduceMul,Int.reduceLT,Int.reduceLE,Int.reduceNeg,Int.reduceToNat,reduceCtorEq,Nat.reduceBEq,Nat.reduceBNe,Qk,Qe,Value.cells,am,mm,keep, f_, fo_, aint, lv, zA, hzl, hac, ovz, ztk, hzq, hnn, Bool.not_true, Bool.not_false, h00, hw0]
  try (refine hK_ _ _ ?_; clear hK_ K_; repeat first | refine QL ?_ | refine QM ?_)
  repeat first | refine Qo ?_ | refine Qn ?_
  refine awp_if false rfl (by simp only [aeval_tmp, look, ↓reduceIte, Nat.reduceEqDiff]; try rfl) (fun h => absurd h (by decide)) (fun _ => ?_)
  iterate 1 ((repeat first | refine Qo ?_ | refine Qn ?_); (first | (refine QK (by kernel_rfl) ?_; intro K_ hK_; simp -implicitDefEqProofs (maxSteps := 1000000) (disch := (try simp only [sl]); try omega) only [sm,QJ,Qj,Qi,Qq,QC,bd,look,aput,Qm,ty,↓reduceIte,Nat.reduceEqDiff,Nat.reduceAdd,Nat.reduceSub,Nat.reduceMul,Int.reduceLT,Int.reduceLE,Int.reduceNeg,Int.reduceToNat,reduceCtorEq,Nat.reduceBEq,Nat.reduceBNe,Qk,Qe,Value.cells,am,mm,keep, f_, fo_, aint, lv, zA, hzl, hac, ovz, ztk, hzq, hnn, Bool.not_true, Bool.not_false, h00, hw0]; refine hK_ _ _ ?_; clear hK_ K_; repeat first | refine QL ?_ | refine QM ?_) | (refine awp_skip ?_; repeat first | refine QL ?_ | refine QM ?_)))
  (repeat first | refine Qo ?_ | refine Qn ?_); refine QK (by kernel_rfl) ?_; intro K_ hK_; simp -implicitDefEqProofs (maxSteps := 1000000) (disch := (try simp only [sl]); try omega) only [sm,QJ,Qj,Qi,Qq,QC,bd,look,aput,Qm,ty,↓reduceIte,Nat.reduceEqDiff,Nat.reduceAdd,Nat.reduceSub,Nat.reduceMul,Int.reduceLT,Int.reduceLE,Int.reduceNeg,Int.reduceToNat,reduceCtorEq,Nat.reduceBEq,Nat.reduceBNe,Qk,Qe,Value.cells,am,mm,keep, f_, fo_, aint, lv, zA, hzl, hac, ovz, ztk, hzq, hnn, Bool.not_true, Bool.not_false, h00, hw0]
  refine ACalls.mono (regnew_calls H3) ?_
  rintro _ G ⟨rfl, rfl⟩
  try simp -implicitDefEqProofs (maxSteps := 1000000) (disch := (try simp only [sl]); try omega) only [sm,QJ,Qj,Qi,Qq,QC,bd,look,aput,Qm,ty,↓reduceIte,Nat.reduceEqDiff,Nat.reduceAdd,Nat.reduceSub,Nat.reduceMul,Int.reduceLT,Int.reduceLE,Int.reduceNeg,Int.reduceToNat,reduceCtorEq,Nat.reduceBEq,Nat.reduceBNe,Qk,Qe,Value.cells,am,mm,keep, f_, fo_, aint, lv, zA, hzl, hac, ovz, ztk, hzq, hnn, Bool.not_true, Bool.not_false, h00, hw0]
  try (refine hK_ _ _ ?_; clear hK_ K_; repeat first | refine QL ?_ | refine QM ?_)
  first | refine AWp.snap8 N_ ?_ | refine AWp.snap7 N_ ?_ | refine AWp.snap6 N_ ?_ | refine AWp.snap5 N_ ?_ | refine AWp.snap4 N_ ?_ | refine AWp.snap3 N_ ?_ | refine AWp.snap2 N_ ?_ | refine AWp.snap1 N_ ?_
  clear fo_; have fo_ := f_; clear f_ N_; intro H4 xH4 lH4 N_
  have f_ := N_.has
  simp only [Has] at f_
  iterate 1 ((repeat first | refine Qo ?_ | refine Qn ?_); (first | (refine QK (by kernel_rfl) ?_; intro K_ hK_; simp -implicitDefEqProofs (maxSteps := 1000000) (disch := (try simp only [sl]); try omega) only [sm,QJ,Qj,Qi,Qq,QC,bd,look,aput,ty,↓reduceIte,Nat.reduceEqDiff,Nat.reduceAdd,Nat.reduceSub,Nat.reduceMul,Int.reduceLT,Int.reduceLE,Int.reduceNeg,Int.reduceToNat,reduceCtorEq,Nat.reduceBEq,Nat.reduceBNe,Qk,Qe,Value.cells,am,mm,keep, f_, fo_, aint, lv, zA, hzl, hac, ovz, ztk, hzq, hnn, Bool.not_true, Bool.not_false, h00, hw0, bd]; refine hK_ _ _ ?_; clear hK_ K_; repeat first | refine QL ?_ | refine QM ?_)))
  first | refine AWp.snap8 N_ ?_ | refine AWp.snap7 N_ ?_ | refine AWp.snap6 N_ ?_ | refine AWp.snap5 N_ ?_ | refine AWp.snap4 N_ ?_ | refine AWp.snap3 N_ ?_ | refine AWp.snap2 N_ ?_ | refine AWp.snap1 N_ ?_
  clear fo_; have fo_ := f_; clear f_ N_; intro H5 xH5 lH5 N_
  have f_ := N_.has
  simp only [Has] at f_
  by_cases hlong : (xs.length : Int) > 60
  · -- R7
    iterate 1 ((repeat first | refine Qo ?_ | refine Qn ?_); (first | (refine QK (by kernel_rfl) ?_; intro K_ hK_; simp -implicitDefEqProofs (maxSteps := 1000000) (disch := (try simp only [sl]); try omega) only [sm,QJ,Qj,Qi,Qq,QC,bd,look,aput,QI,abin,anil,ty,↓reduceIte,Nat.reduceEqDiff,Nat.reduceAdd,Nat.reduceSub,Nat.reduceMul,Int.reduceLT,Int.reduceLE,Int.reduceNeg,Int.reduceToNat,reduceCtorEq,Nat.reduceBEq,Nat.reduceBNe,Qk,Qe,Value.cells,am,mm,keep, f_, fo_, aint, lv, zA, hzl, hac, ovz, ztk, hzq, hnn, Bool.not_true, Bool.not_false, h00, hw0, hlong]; refine hK_ _ _ ?_; clear hK_ K_; repeat first | refine QL ?_ | refine QM ?_)))
    repeat first | refine Qo ?_ | refine Qn ?_
    refine awp_if true rfl (by simp only [aeval_tmp, look, ↓reduceIte, Nat.reduceEqDiff]; try rfl) (fun _ => ?_) (fun h => absurd h (by decide))
    (repeat first | refine Qo ?_ | refine Qn ?_); refine QK (by kernel_rfl) ?_; intro K_ hK_; simp -implicitDefEqProofs (maxSteps := 1000000) (disch := (try simp only [sl]); try omega) only [sm,QJ,Qj,Qi,Qq,QC,bd,look,aput,Qm,QI,abin,anil,ty,↓reduceIte,Nat.reduceEqDiff,Nat.reduceAdd,Nat.reduceSub,Nat.reduceMul,Int.reduceLT,Int.reduceLE,Int.reduceNeg,Int.reduceToNat,reduceCtorEq,Nat.reduceBEq,Nat.reduceBNe,Qk,Qe,Value.cells,am,mm,keep, f_, fo_, aint, lv, zA, hzl, hac, ovz, ztk, hzq, hnn, Bool.not_true, Bool.not_false, h00, hw0]
    refine ACalls.mono (aalive_calls _) ?_
    rintro _ G ⟨rfl, k⟩
    try simp -implicitDefEqProofs (maxSteps := 1000000) (disch := (try simp only [sl]); try omega) only [sm,QJ,Qj,Qi,Qq,QC,bd,look,aput,Qm,QI,abin,anil,ty,↓reduceIte,Nat.reduceEqDiff,Nat.reduceAdd,Nat.reduceSub,Nat.reduceMul,Int.reduceLT,Int.reduceLE,Int.reduceNeg,Int.reduceToNat,reduceCtorEq,Nat.reduceBEq,Nat.reduceBNe,Qk,Qe,Value.cells,am,mm,keep, f_, fo_, aint, lv, zA, hzl, hac, ovz, ztk, hzq, hnn, Bool.not_true, Bool.not_false, h00, hw0]
    try (refine hK_ _ _ ?_; clear hK_ K_; repeat first | refine QL ?_ | refine QM ?_)
    first | refine awp_ret ?_ | skip
    show ∃ v, aresults Tryd.prog Tryd.f14 _ _ = some v ∧ _
    rw [aresults_1 (r := .tmp 2) (by kernel_rfl)]
    simp -implicitDefEqProofs (disch := (try simp only [sl]); try omega) only [aresult, Option.some.injEq, exists_eq_left', sm,Qj,Qi,Qq,QC,Qz,bd,QF,look,aput,QB,Qf,QA,ty,↓reduceIte,Nat.reduceEqDiff,Nat.reduceAdd,Nat.reduceSub,Nat.reduceMul,Int.reduceLT,Int.reduceLE,Int.reduceNeg,Int.reduceToNat,reduceCtorEq,Nat.reduceBEq,Nat.reduceBNe,Qk,Qe,Value.cells,am,mm,keep, f_, fo_, aint, lv, zA, hzl, hac, ovz, ztk, hzq, hnn, Bool.not_true, Bool.not_false, h00, hw0]
  iterate 1 ((repeat first | refine Qo ?_ | refine Qn ?_); (first | (refine QK (by kernel_rfl) ?_; intro K_ hK_; simp -implicitDefEqProofs (maxSteps := 1000000) (disch := (try simp only [sl]); try omega) only [sm,QJ,Qj,Qi,Qq,QC,bd,look,aput,QI,abin,anil,ty,↓reduceIte,Nat.reduceEqDiff,Nat.reduceAdd,Nat.reduceSub,Nat.reduceMul,Int.reduceLT,Int.reduceLE,Int.reduceNeg,Int.reduceToNat,reduceCtorEq,Nat.reduceBEq,Nat.reduceBNe,Qk,Qe,Value.cells,am,mm,keep, f_, fo_, aint, lv, zA, hzl, hac, ovz, ztk, hzq, hnn, Bool.not_true, Bool.not_false, h00, hw0, hlong]; refine hK_ _ _ ?_; clear hK_ K_; repeat first | refine QL ?_ | refine QM ?_)))
  repeat first | refine Qo ?_ | refine Qn ?_
  refine awp_if false rfl (by simp only [aeval_tmp, look, ↓reduceIte, Nat.reduceEqDiff]; try rfl) (fun h => absurd h (by decide)) (fun _ => ?_)
  iterate 4 ((repeat first | refine Qo ?_ | refine Qn ?_); (first | (refine QK (by kernel_rfl) ?_; intro K_ hK_; simp -implicitDefEqProofs (maxSteps := 1000000) (disch := (try simp only [sl]); try omega) only [sm,QJ,Qj,Qi,Qq,QC,bd,look,aput,Qm,ty,↓reduceIte,Nat.reduceEqDiff,Nat.reduceAdd,Nat.reduceSub,Nat.reduceMul,Int.reduceLT,Int.reduceLE,Int.reduceNeg,Int.reduceToNat,reduceCtorEq,Nat.reduceBEq,Nat.reduceBNe,Qk,Qe,Value.cells,am,mm,keep, f_, fo_, aint, lv, zA, hzl, hac, ovz, ztk, hzq, hnn, Bool.not_true, Bool.not_false, h00, hw0, bd]; refine hK_ _ _ ?_; clear hK_ K_; repeat first | refine QL ?_ | refine QM ?_) | (refine awp_skip ?_; repeat first | refine QL ?_ | refine QM ?_)))
  first | refine AWp.snap8 N_ ?_ | refine AWp.snap7 N_ ?_ | refine AWp.snap6 N_ ?_ | refine AWp.snap5 N_ ?_ | refine AWp.snap4 N_ ?_ | refine AWp.snap3 N_ ?_ | refine AWp.snap2 N_ ?_ | refine AWp.snap1 N_ ?_
  clear fo_; have fo_ := f_; clear f_ N_; intro H6 xH6 lH6 N_
  have f_ := N_.has
  simp only [Has] at f_
  have hl3 := lH4
  have hl4 := lH5
  have hl5 := lH6
  have J0 : RJ H (H5.length + 1) H3.length H4.length H5.length H6 [] An.zero false (.slice none 0 0) (.slice none 0 0) (.slice none 0 0) (.slice none 0 0) (.slice none 0 0) :=
    ⟨N_.ext, f_.2.2.1.2.1, f_.2.1.2.1, f_.1.2.1, OS.nil _ _, OS.nil _ _, OS.nil _ _, OS.nil _ _, OS.nil _ _, fun _ _ _ _ _ _ _ h => (by cases h), fun _ _ _ _ _ _ _ h => (by cases h), fun _ _ _ _ _ _ _ h => (by cases h), fun _ _ _ _ _ _ _ h => (by cases h), zero_wf, .inr ⟨rfl, rfl⟩⟩
  have hg1 : H.length ≤ H3.length := (e1.trans (xH2.trans e3)).length
  have hg2 : H3.length < H4.length := by omega
  have hg3 : H4.length < H5.length := by omega
  have hg4 : H5.length < H6.length := by omega
  clear f_ fo_ N_ xH4 xH5 xH6 lH4 lH5 lH6 hl3 hl4 hl5
  generalize H3.length = gr at *
  generalize H4.length = gz at *
  generalize H5.length = gl at *
  repeat first | refine Qo ?_ | refine Qn ?_
  refine awp_forK [6, 7, 9, 67, 68] (fun x : Nat × List UInt32 × An × Bool × Value × Value × Value × Value × Value × AH => [(69, I64 x.1), (8, x.2.2.2.2.2.2.2.2.1), (10, .bool x.2.2.2.1)]) (fun x : Nat × List UInt32 × An × Bool × Value × Value × Value × Value × Value × AH => x.2.2.2.2.2.2.2.2.2) (fun x : Nat × List UInt32 × An × Bool × Value × Value × Value × Value × Value × AH => x.1 ≤ xs.length ∧ x.2.1.length ≤ x.1 ∧ RJ H (gl + 1) gr gz gl x.2.2.2.2.2.2.2.2.2 x.2.1 x.2.2.1 x.2.2.2.1 x.2.2.2.2.1 x.2.2.2.2.2.1 x.2.2.2.2.2.2.1 x.2.2.2.2.2.2.2.1 x.2.2.2.2.2.2.2.2.1 ∧ gl < x.2.2.2.2.2.2.2.2.2.length) (fun x : Nat × List UInt32 × An × Bool × Value × Value × Value × Value × Value × AH => xs.length - x.1) ((0, [], An.zero, false, .slice none 0 0, .slice none 0 0, .slice none 0 0, .slice none 0 0, .slice none 0 0, H6)) (⟨Nat.zero_le _, Nat.zero_le _, J0, hg4⟩) (by repeat first | exact Forgets.nil | refine Forgets.cons (by first | (simp only [look, ↓reduceIte, Nat.reduceEqDiff]; done) | (simp only [look, ↓reduceIte, Nat.reduceEqDiff]; rfl) | simp [look]) ?_) rfl ?_
  rintro ⟨i, eps, last, th, rv, ev, zv, zev, wv, K0⟩ ⟨hi, hel, J, hgK⟩
  simp only [] at hi hel J hgK ⊢
  clear J0 hg4
  have N_ : Now H K0 [] := ⟨J.x, trivial⟩
  have f_ := N_.has
  simp only [Has] at f_
  have fo_ := True.intro
  by_cases hlt : i < xs.length
  · obtain ⟨ql, ol, el', cl, hvl, hcl, hcc, hlen⟩ := hl.at hal i hlt
    cases hvl
    have ha := hwf _ (List.getElem_mem hlt)
    generalize xs[i] = a at *
    have hcl0 := J.x.cells hcl
    have aal := ac_length ha
    have atk := ac_take ha
    have aep := ac_ep a
    have hdr : ((cl.drop (ol + i * 71)).take 71).length = 71 := by rw [hcc]; exact aal
    iterate 1 ((repeat first | refine Qo ?_ | refine Qn ?_); (first | (refine QK (by kernel_rfl) ?_; intro K_ hK_; simp -implicitDefEqProofs (maxSteps := 1000000) (disch := (try simp only [sl]); try omega) only [sm,QJ,Qj,Qi,Qq,QC,bd,look,aput,QI,abin,anil,ty,↓reduceIte,Nat.reduceEqDiff,Nat.reduceAdd,Nat.reduceSub,Nat.reduceMul,Int.reduceLT,Int.reduceLE,Int.reduceNeg,Int.reduceToNat,reduceCtorEq,Nat.reduceBEq,Nat.reduceBNe,Qk,Qe,Value.cells,am,mm,keep, f_, fo_, aint, lv, zAr, hac, hlt, hcl0, hcc, hlen, aal, atk, aep, ac_ovr zero_wf ha, hzl]; refine hK_ _ _ ?_; clear hK_ K_; repeat first | refine QL ?_ | refine QM ?_)))
    repeat first | refine Qo ?_ | refine Qn ?_
    refine awp_if true rfl (by simp only [aeval_tmp, look, ↓reduceIte, Nat.reduceEqDiff]; try rfl) (fun _ => ?_) (fun h => absurd h (by decide))
    iterate 2 ((repeat first | refine Qo ?_ | refine Qn ?_); (first | (refine QK (by kernel_rfl) ?_; intro K_ hK_; simp -implicitDefEqProofs (maxSteps := 1000000) (disch := (try simp only [sl]); try omega) only [sm,QJ,Qj,Qi,Qq,QC,Qz,bd,QF,look,aput,Qm,Qb,QA,ty,↓reduceIte,Nat.reduceEqDiff,Nat.reduceAdd,Nat.reduceSub,Nat.reduceMul,Int.reduceLT,Int.reduceLE,Int.reduceNeg,Int.reduceToNat,reduceCtorEq,Nat.reduceBEq,Nat.reduceBNe,Qk,Qe,Value.cells,am,mm,keep, f_, fo_, aint, lv, zAr, hac, hlt, hcl0, hcc, hlen, aal, atk, aep, ac_ovr zero_wf ha, hzl]; refine hK_ _ _ ?_; clear hK_ K_; repeat first | refine QL ?_ | refine QM ?_) | (refine awp_skip ?_; repeat first | refine QL ?_ | refine QM ?_)))
    (repeat first | refine Qo ?_ | refine Qn ?_); refine QK (by kernel_rfl) ?_; intro K_ hK_; simp -implicitDefEqProofs (maxSteps := 1000000) (disch := (try simp only [sl]); try omega) only [sm,QJ,Qj,Qi,Qq,QC,Qz,bd,QF,look,aput,Qm,QA,ty,↓reduceIte,Nat.reduceEqDiff,Nat.reduceAdd,Nat.reduceSub,Nat.reduceMul,Int.reduceLT,Int.reduceLE,Int.reduceNeg,Int.reduceToNat,reduceCtorEq,Nat.reduceBEq,Nat.reduceBNe,Qk,Qe,Value.cells,am,mm,keep, f_, fo_, aint, lv, zAr, hac, hlt, hcl0, hcc, hlen, aal, atk, aep, ac_ovr zero_wf ha, hzl]
    first | refine ACalls.snap8 N_ ?_ | refine ACalls.snap7 N_ ?_ | refine ACalls.snap6 N_ ?_ | refine ACalls.snap5 N_ ?_ | refine ACalls.snap4 N_ ?_ | refine ACalls.snap3 N_ ?_ | refine ACalls.snap2 N_ ?_ | refine ACalls.snap1 N_ ?_
    clear fo_; have fo_ := f_; clear f_ N_; intro K1 xK1 lK1 N_
    have f_ := N_.has
    simp only [Has] at f_
    have q1 := f_.1.2.1
    refine ACalls.mono (theirs_calls a K1 ha) ?_
    rintro _ K2 ⟨rfl, k2⟩
    replace N_ := N_.grow k2
    clear fo_; have fo_ := f_; clear f_
    have f_ := N_.has
    simp only [Has] at f_
    try simp -implicitDefEqProofs (maxSteps := 1000000) (disch := (try simp only [sl]); try omega) only [sm,QJ,Qj,Qi,Qq,QC,Qz,bd,QF,look,aput,Qm,QA,ty,↓reduceIte,Nat.reduceEqDiff,Nat.reduceAdd,Nat.reduceSub,Nat.reduceMul,Int.reduceLT,Int.reduceLE,Int.reduceNeg,Int.reduceToNat,reduceCtorEq,Nat.reduceBEq,Nat.reduceBNe,Qk,Qe,Value.cells,am,mm,keep, f_, fo_, aint, lv, zAr, hac, hlt, hcl0, hcc, hlen, aal, atk, aep, ac_ovr zero_wf ha, hzl]
    try (refine hK_ _ _ ?_; clear hK_ K_; repeat first | refine QL ?_ | refine QM ?_)
    have J2 := J.mono (xK1.trans k2)
    have q2 := k2 _ _ q1
    have lK1 := xK1.length
    have lK2 := k2.length
    have lev := J.o2.lt
    have lzev := J.o4.lt
    have lwv := J.o5.lt
    by_cases hm : a.may
    · refine ACalls.mono (set_ok_calls gr rv ev eps a K2 J2.hr (J2.o2.low (by omega)) (by omega) ha hm) ?_
      rintro _ K3 ⟨rfl, ⟨rv', ev', n1, s1, s2, s3, s4, s5⟩, b3⟩
      have hx3 : Ext H K3 := fun p y hy => b3 p y (by have := got_lt hy; omega) (fun o n e k => by have := (lev _ _ _ _ k).2; have := got_lt hy; omega) (J2.x _ _ hy)
      have q3 : K3[K0.length]? = some (.own (ac a)) := b3 _ _ (by omega) (fun o n e k => by have := (lev _ _ _ _ k).1; omega) q2
      have z3 := b3 _ _ (by omega) (fun o n e k => by have := (lev _ _ _ _ k).2; omega) J2.hz
      have l3 := b3 _ _ (by omega) (fun o n e k => by have := (lev _ _ _ _ k).2; omega) J2.hl
      have o33 := J2.o3.but2 b3 (by omega) J.n1
      have o34 := J2.o4.but2 b3 (by omega) J.n2
      have o35 := J2.o5.but2 b3 (by omega) J.n3
      clear f_ fo_ N_
      have N_ : Now H K3 [(K0.length, ac a)] := ⟨hx3, ⟨got_lt q3, q3, AH.cells_own q3⟩, trivial⟩
      have f_ := N_.has
      simp only [Has] at f_
      have fo_ := True.intro
      try simp -implicitDefEqProofs (maxSteps := 1000000) (disch := (try simp only [sl]); try omega) only [sm,QJ,Qj,Qi,Qq,QC,Qz,bd,QF,look,aput,Qm,QA,ty,↓reduceIte,Nat.reduceEqDiff,Nat.reduceAdd,Nat.reduceSub,Nat.reduceMul,Int.reduceLT,Int.reduceLE,Int.reduceNeg,Int.reduceToNat,reduceCtorEq,Nat.reduceBEq,Nat.reduceBNe,Qk,Qe,Value.cells,am,mm,keep, f_, fo_, aint, hac, aal, atk, aep, hnn, hbb, hii]
      try (refine hK_ _ _ ?_; clear hK_ K_; repeat first | refine QL ?_ | refine QM ?_)
      (repeat first | refine Qo ?_ | refine Qn ?_); refine QK (by kernel_rfl) ?_; intro K_ hK_; simp -implicitDefEqProofs (maxSteps := 1000000) (disch := (try simp only [sl]); try omega) only [sm,QJ,Qj,Qi,Qq,QC,Qz,bd,QF,look,aput,Qm,QI,abin,anil,QA,ty,↓reduceIte,Nat.reduceEqDiff,Nat.reduceAdd,Nat.reduceSub,Nat.reduceMul,Int.reduceLT,Int.reduceLE,Int.reduceNeg,Int.reduceToNat,reduceCtorEq,Nat.reduceBEq,Nat.reduceBNe,Qk,Qe,Value.cells,am,mm,keep, f_, fo_, aint, hac, aal, atk, aep, hnn, hbb, hii]
      refine ACalls.mono (refmay_calls a K3 ha) ?_
      rintro _ K4 ⟨rfl, k4⟩
      replace N_ := N_.grow k4
      clear fo_; have fo_ := f_; clear f_
      have f_ := N_.has
      simp only [Has] at f_
      try simp -implicitDefEqProofs (maxSteps := 1000000) (disch := (try simp only [sl]); try omega) only [sm,QJ,Qj,Qi,Qq,QC,Qz,bd,QF,look,aput,Qm,QI,abin,anil,QA,ty,↓reduceIte,Nat.reduceEqDiff,Nat.reduceAdd,Nat.reduceSub,Nat.reduceMul,Int.reduceLT,Int.reduceLE,Int.reduceNeg,Int.reduceToNat,reduceCtorEq,Nat.reduceBEq,Nat.reduceBNe,Qk,Qe,Value.cells,am,mm,keep, f_, fo_, aint, hac, aal, atk, aep, hnn, hbb, hii, decide_eq_true hm]
      try (refine hK_ _ _ ?_; clear hK_ K_; repeat first | refine QL ?_ | refine QM ?_)
      refine ACalls.mono (theirs_calls a K4 ha) ?_
      rintro _ K5 ⟨rfl, k5⟩
      replace N_ := N_.grow k5
      clear fo_; have fo_ := f_; clear f_
      have f_ := N_.has
      simp only [Has] at f_
      try simp -implicitDefEqProofs (maxSteps := 1000000) (disch := (try simp only [sl]); try omega) only [sm,QJ,Qj,Qi,Qq,QC,Qz,bd,QF,look,aput,Qm,QI,abin,anil,QA,ty,↓reduceIte,Nat.reduceEqDiff,Nat.reduceAdd,Nat.reduceSub,Nat.reduceMul,Int.reduceLT,Int.reduceLE,Int.reduceNeg,Int.reduceToNat,reduceCtorEq,Nat.reduceBEq,Nat.reduceBNe,Qk,Qe,Value.cells,am,mm,keep, f_, fo_, aint, hac, aal, atk, aep, hnn, hbb, hii]
      try (refine hK_ _ _ ?_; clear hK_ K_; repeat first | refine QL ?_ | refine QM ?_)
      have k35 := k4.trans k5
      refine ACalls.mono (set_ok_calls gz zv zev eps a K5 (k35 _ _ z3) ((o34.mono k35).low (by omega)) (by omega) ha hm) ?_
      rintro _ K6 ⟨rfl, ⟨zv', zev', n2, t1, t2, t3, t4, t5⟩, b6⟩
      obtain ⟨gq, -, -, hq1, hq2⟩ := s3.at (by simp)
      obtain ⟨gq', -, -, hq1', hq2'⟩ := t3.at (by simp)
      have lK5 := k35.length
      have hx6 : Ext H K6 := fun p y hy => b6 p y (by have := got_lt hy; omega) (fun o n e k => by have := (lzev _ _ _ _ k).2; have := got_lt hy; omega) (N_.ext _ _ hy)
      have q6 : K6[K0.length]? = some (.own (ac a)) := b6 _ _ (by omega) (fun o n e k => by have := (lzev _ _ _ _ k).1; omega) (k35 _ _ q3)
      have r6 := b6 _ _ (by omega) (fun o n e k => by have := (lzev _ _ _ _ k).2; omega) (k35 _ _ s1)
      have l6 := b6 _ _ (by omega) (fun o n e k => by have := (lzev _ _ _ _ k).2; omega) (k35 _ _ l3)
      have o61 := (s2.mono k35).but2 b6 (by omega) (NE.of J.o4 s2 (by omega))
      have o62 := (s3.mono k35).but2 b6 (by omega) (NE.of J.o4 s3 (by omega))
      have o65 := (o35.mono k35).but2 b6 (by omega) J.n4
      clear f_ fo_ N_
      have N_ : Now H K6 [(K0.length, ac a)] := ⟨hx6, ⟨got_lt q6, q6, AH.cells_own q6⟩, trivial⟩
      have f_ := N_.has
      simp only [Has] at f_
      have fo_ := True.intro
      try simp -implicitDefEqProofs (maxSteps := 1000000) (disch := (try simp only [sl]); try omega) only [sm,QJ,Qj,Qi,Qq,QC,Qz,bd,QF,look,aput,Qm,QI,abin,anil,QA,ty,↓reduceIte,Nat.reduceEqDiff,Nat.reduceAdd,Nat.reduceSub,Nat.reduceMul,Int.reduceLT,Int.reduceLE,Int.reduceNeg,Int.reduceToNat,reduceCtorEq,Nat.reduceBEq,Nat.reduceBNe,Qk,Qe,Value.cells,am,mm,keep, f_, fo_, aint, hac, aal, atk, aep, hnn, hbb, hii, Bool.not_true]
      try (refine hK_ _ _ ?_; clear hK_ K_; repeat first | refine QL ?_ | refine QM ?_)
      repeat first | refine Qo ?_ | refine Qn ?_
      refine awp_if false rfl (by simp only [aeval_tmp, look, ↓reduceIte, Nat.reduceEqDiff]; try rfl) (fun h => absurd h (by decide)) (fun _ => ?_)
      iterate 2 ((repeat first | refine Qo ?_ | refine Qn ?_); (first | (refine QK (by kernel_rfl) ?_; intro K_ hK_; simp -implicitDefEqProofs (maxSteps := 1000000) (disch := (try simp only [sl]); try omega) only [sm,QJ,Qj,Qi,Qq,QC,bd,look,aput,QI,abin,anil,ty,↓reduceIte,Nat.reduceEqDiff,Nat.reduceAdd,Nat.reduceSub,Nat.reduceMul,Int.reduceLT,Int.reduceLE,Int.reduceNeg,Int.reduceToNat,reduceCtorEq,Nat.reduceBEq,Nat.reduceBNe,Qk,Qe,Value.cells,am,mm,keep, f_, fo_, aint, hac, aal, atk, aep, hnn, hbb, hii, Bool.not_true]; refine hK_ _ _ ?_; clear hK_ K_; repeat first | refine QL ?_ | refine QM ?_) | (refine awp_skip ?_; repeat first | refine QL ?_ | refine QM ?_)))
      repeat first | refine Qo ?_ | refine Qn ?_
      refine awp_if true rfl (by simp only [aeval_tmp, look, ↓reduceIte, Nat.reduceEqDiff]; try rfl) (fun _ => ?_) (fun h => absurd h (by decide))
      obtain ⟨w7, K7, ha7, o75, k7⟩ := OS.appF (P := Tryd.prog) (t := 96) (tx := 96) (bytes := 4) (by simp only [ty]) (by simp only [ty]) (o65.mono (Ext.push K6 [.own [U32 a.ep]])) ((OS.new (b := 0) (H := K6) (n := 1) (vs := [U32 a.ep]) (Nat.zero_le _) rfl).sl) rfl (by simp only [List.length_map, List.length_singleton]; omega) (by decide) (by simp)
      have ho7 : eps.map U32 ++ [U32 a.ep] = (eps ++ [a.ep]).map U32 := by rw [List.map_append]; rfl
      rw [ho7] at o75
      have xp := Ext.push K6 [ABlk.own [U32 a.ep]]
      have b7 : But2 gz wv (K6 ++ [ABlk.own [U32 a.ep]]) K7 := fun p y _ hs h => k7 p y hs h
      have hx7 : Ext H K7 := fun p y hy => k7 p y (fun o n e k => by have := (lwv _ _ _ _ k).2; have := got_lt hy; omega) (xp _ _ (hx6 _ _ hy))
      have q7 : K7[K0.length]? = some (.own (ac a)) := k7 _ _ (fun o n e k => by have := (lwv _ _ _ _ k).1; omega) (xp _ _ q6)
      have r7 := k7 _ _ (fun o n e k => by have := (lwv _ _ _ _ k).2; omega) (xp _ _ r6)
      have z7 := k7 _ _ (fun o n e k => by have := (lwv _ _ _ _ k).2; omega) (xp _ _ t1)
      have l7 := k7 _ _ (fun o n e k => by have := (lwv _ _ _ _ k).2; omega) (xp _ _ l6)
      have lxp := xp.length
      have o71 := (o61.mono xp).but2 b7 (by omega) (NE.of J.o5 s2 (by omega))
      have o72 := (o62.mono xp).but2 b7 (by omega) (NE.of J.o5 s3 (by omega))
      have o73 := (t2.mono xp).but2 b7 (by omega) (NE.of J.o5 t2 (by omega))
      have o74 := (t3.mono xp).but2 b7 (by omega) (NE.of J.o5 t3 (by omega))
      iterate 1 ((repeat first | refine Qo ?_ | refine Qn ?_); (first | (refine QK (by kernel_rfl) ?_; intro K_ hK_; simp -implicitDefEqProofs (maxSteps := 1000000) (disch := (try simp only [sl]); try omega) only [sm,QJ,Qj,Qi,Qq,QC,Qz,bd,QF,look,aput,Qm,Qc,QA,ty,↓reduceIte,Nat.reduceEqDiff,Nat.reduceAdd,Nat.reduceSub,Nat.reduceMul,Int.reduceLT,Int.reduceLE,Int.reduceNeg,Int.reduceToNat,reduceCtorEq,Nat.reduceBEq,Nat.reduceBNe,Qk,Qe,Value.cells,am,mm,keep, f_, fo_, aint, hac, aal, atk, aep, hnn, hbb, hii, Bool.not_true, ha7]; refine hK_ _ _ ?_; clear hK_ K_; repeat first | refine QL ?_ | refine QM ?_)))
      clear f_ fo_ N_
      have N_ : Now H K7 [(K0.length, ac a)] := ⟨hx7, ⟨got_lt q7, q7, AH.cells_own q7⟩, trivial⟩
      have f_ := N_.has
      simp only [Has] at f_
      have fo_ := True.intro
      (repeat first | refine Qo ?_ | refine Qn ?_); refine QK (by kernel_rfl) ?_; intro K_ hK_; simp -implicitDefEqProofs (maxSteps := 1000000) (disch := (try simp only [sl]); try omega) only [sm,QJ,Qj,Qi,Qq,QC,Qz,bd,QF,look,aput,Qm,QA,ty,↓reduceIte,Nat.reduceEqDiff,Nat.reduceAdd,Nat.reduceSub,Nat.reduceMul,Int.reduceLT,Int.reduceLE,Int.reduceNeg,Int.reduceToNat,reduceCtorEq,Nat.reduceBEq,Nat.reduceBNe,Qk,Qe,Value.cells,am,mm,keep, f_, fo_, aint, hac, aal, atk, aep, hnn, hbb, hii, Bool.not_true]
      refine ACalls.mono (theirs_calls a K7 ha) ?_
      rintro _ K8 ⟨rfl, k8⟩
      replace N_ := N_.grow k8
      clear fo_; have fo_ := f_; clear f_
      have f_ := N_.has
      simp only [Has] at f_
      have l8 := k8 _ _ l7
      have c8 := AH.cells_own l8
      have g8 := got_lt l8
      have ll := ac_length J.w
      have lo := ac_ovr J.w ha
      try simp -implicitDefEqProofs (maxSteps := 1000000) (disch := (try simp only [sl]); try omega) only [sm,QJ,Qj,Qi,Qq,QC,Qz,bd,QF,look,aput,Qm,QA,ty,↓reduceIte,Nat.reduceEqDiff,Nat.reduceAdd,Nat.reduceSub,Nat.reduceMul,Int.reduceLT,Int.reduceLE,Int.reduceNeg,Int.reduceToNat,reduceCtorEq,Nat.reduceBEq,Nat.reduceBNe,Qk,Qe,Value.cells,am,mm,keep, f_, fo_, aint, hac, aal, atk, aep, hnn, hbb, hii, Bool.not_true, l8, c8, g8, ll, lo]
      try (refine hK_ _ _ ?_; clear hK_ K_; repeat first | refine QL ?_ | refine QM ?_)
      have x8 := k7
      have J9 : RJ H (gl + 1) gr gz gl (K8.set gl (.own (ac a))) (eps ++ [a.ep]) a true rv' ev' zv' zev' w7 :=
        ⟨(hx7.trans k8).set _ (by omega), set_other K8 gl _ _ _ (by omega) (k8 _ _ r7), set_other K8 gl _ _ _ (by omega) (k8 _ _ z7), gset _ _ _ g8,
          ((o71.mono k8).via (fun p y hp hy => set_other K8 gl _ p y (by omega) hy)).low (by omega),
          ((o72.mono k8).via (fun p y hp hy => set_other K8 gl _ p y (by omega) hy)).low (by omega),
          ((o73.mono k8).via (fun p y hp hy => set_other K8 gl _ p y (by omega) hy)).low (by omega),
          ((o74.mono k8).via (fun p y hp hy => set_other K8 gl _ p y (by omega) hy)).low (by omega),
          (o75.mono k8 |>.via (fun p y hp hy => set_other K8 gl _ p y (by omega) hy)).low (by omega),
          NE.of (H := K5) (s3.mono k35) t2 (Nat.le_refl _), NE.of (H := K5) (s3.mono k35) t3 (by omega), NE.of (H := K6) o62 o75 (by omega), NE.of (H := K6) t3 o75 (by omega), ha, .inl ⟨rfl, hm⟩⟩
      have g9 := got_lt J9.hl
      clear f_ fo_ N_
      generalize K8.set gl (.own (ac a)) = K9 at *

      have N_ : Now H K9 [] := ⟨J9.x, trivial⟩
      have f_ := N_.has
      simp only [Has] at f_
      have fo_ := True.intro
      (repeat first | refine Qo ?_ | refine Qn ?_); refine QK (by kernel_rfl) ?_; intro K_ hK_; simp -implicitDefEqProofs (maxSteps := 1000000) (disch := (try simp only [sl]); try omega) only [sm,QJ,Qj,Qi,Qq,QC,bd,look,aput,Qm,ty,↓reduceIte,Nat.reduceEqDiff,Nat.reduceAdd,Nat.reduceSub,Nat.reduceMul,Int.reduceLT,Int.reduceLE,Int.reduceNeg,Int.reduceToNat,reduceCtorEq,Nat.reduceBEq,Nat.reduceBNe,Qk,Qe,Value.cells,am,mm,keep, f_, fo_, aint, hac, hnn, hbb, hii, Bool.not_true, Bool.not_false, zA]
      refine ACalls.mono (raw_calls gr rv' ev' (rawOf true (a)) K9 J9.hr J9.o1.sl (rawOf_length J9.w)) ?_
      rintro u T1 ⟨u1, m1⟩
      replace N_ := N_.grow m1
      clear fo_; have fo_ := f_; clear f_
      have f_ := N_.has
      simp only [Has] at f_
      try simp -implicitDefEqProofs (maxSteps := 1000000) (disch := (try simp only [sl]); try omega) only [sm,QJ,Qj,Qi,Qq,QC,bd,look,aput,Qm,ty,↓reduceIte,Nat.reduceEqDiff,Nat.reduceAdd,Nat.reduceSub,Nat.reduceMul,Int.reduceLT,Int.reduceLE,Int.reduceNeg,Int.reduceToNat,reduceCtorEq,Nat.reduceBEq,Nat.reduceBNe,Qk,Qe,Value.cells,am,mm,keep, f_, fo_, aint, hac, hnn, hbb, hii, Bool.not_true, Bool.not_false, zA]
      try (refine hK_ _ _ ?_; clear hK_ K_; repeat first | refine QL ?_ | refine QM ?_)
      have hbl := abytes_length J9.w
      have hrw : rawOf true (a) = (a).bytes := rfl
      rw [hrw] at u1
      obtain ⟨gu, rfl, hgu, hbu, hlu⟩ := u1.at (by rw [List.length_map, hbl]; decide)
      rw [List.length_map, hbl]
      iterate 1 ((repeat first | refine Qo ?_ | refine Qn ?_); (first | (refine QK (by kernel_rfl) ?_; intro K_ hK_; simp -implicitDefEqProofs (maxSteps := 1000000) (disch := (try simp only [sl]); try omega) only [sm,QJ,Qj,Qi,Qq,QC,bd,look,aput,ty,↓reduceIte,Nat.reduceEqDiff,Nat.reduceAdd,Nat.reduceSub,Nat.reduceMul,Int.reduceLT,Int.reduceLE,Int.reduceNeg,Int.reduceToNat,reduceCtorEq,Nat.reduceBEq,Nat.reduceBNe,Qk,Qe,Value.cells,am,mm,keep, f_, fo_, aint, hac, hnn, hbb, hii, Bool.not_true, Bool.not_false, zA]; refine hK_ _ _ ?_; clear hK_ K_; repeat first | refine QL ?_ | refine QM ?_)))
      repeat first | refine Qo ?_ | refine Qn ?_
      refine awp_forK [6, 7, 8, 9, 10, 14, 67, 68, 69, 102] (fun y : Nat × AH => [(103, I64 y.1)]) (fun y : Nat × AH => y.2) (fun y : Nat × AH => y.1 ≤ 128 ∧ Ext K9 y.2 ∧ (∃ us : List UInt8, us.length = 128 ∧ y.2[gu]? = some (.own (us.map U8)))) (fun y : Nat × AH => 128 - y.1) ((0, T1)) (⟨Nat.zero_le _, m1, _, hbl, hgu⟩) (by repeat first | exact Forgets.nil | refine Forgets.cons (by first | (simp only [look, ↓reduceIte, Nat.reduceEqDiff]; done) | (simp only [look, ↓reduceIte, Nat.reduceEqDiff]; rfl) | simp [look]) ?_) rfl ?_
      rintro ⟨k, T2⟩ ⟨hk, m2, us, hus, qu⟩
      simp only [] at hk m2 hus qu ⊢
      by_cases hk2 : k < 128
      · have cu := AH.cells_own qu
        have gu2 := got_lt qu
        have mu := mg8 us k (by omega)
        have lu2 : (us.map U8).length = 128 := by rw [List.length_map, hus]
        have su := ms8 us k (us.getD k 0 + 1)
        have hkk : IntKind.i64.wrap ((k : Int) + 1) = (k : Int) + 1 := wi64 _ (by omega) (by omega)
        have h1u : U8 1 = .int .u8 1 := rfl
        have w1u : IntKind.u8.wrap (((us.getD k 0).toNat : Int) + 1) = ((us.getD k 0 + 1).toNat : Int) := by rw [wrap8, UInt8.toNat_add]; rfl
        iterate 1 ((repeat first | refine Qo ?_ | refine Qn ?_); (first | (refine QK (by kernel_rfl) ?_; intro K_ hK_; simp -implicitDefEqProofs (maxSteps := 1000000) (disch := (try simp only [sl]); try omega) only [sm,QJ,Qj,Qi,Qq,QC,bd,look,aput,QI,abin,anil,ty,↓reduceIte,Nat.reduceEqDiff,Nat.reduceAdd,Nat.reduceSub,Nat.reduceMul,Int.reduceLT,Int.reduceLE,Int.reduceNeg,Int.reduceToNat,reduceCtorEq,Nat.reduceBEq,Nat.reduceBNe,Qk,Qe,Value.cells,am,mm,keep, f_, fo_, aint, hac, hnn, hbb, hii, Bool.not_true, Bool.not_false, zA, hk2]; refine hK_ _ _ ?_; clear hK_ K_; repeat first | refine QL ?_ | refine QM ?_)))
        repeat first | refine Qo ?_ | refine Qn ?_
        refine awp_if true rfl (by simp only [aeval_tmp, look, ↓reduceIte, Nat.reduceEqDiff]; try rfl) (fun _ => ?_) (fun h => absurd h (by decide))
        iterate 4 ((repeat first | refine Qo ?_ | refine Qn ?_); (first | (refine QK (by kernel_rfl) ?_; intro K_ hK_; simp -implicitDefEqProofs (maxSteps := 1000000) (disch := (try simp only [sl]); try omega) only [sm,QJ,Qj,Qi,Qq,QC,Qz,bd,QF,look,aput,Qm,QI,abin,anil,Qb,QA,ty,↓reduceIte,Nat.reduceEqDiff,Nat.reduceAdd,Nat.reduceSub,Nat.reduceMul,Int.reduceLT,Int.reduceLE,Int.reduceNeg,Int.reduceToNat,reduceCtorEq,Nat.reduceBEq,Nat.reduceBNe,Qk,Qe,Value.cells,am,mm,keep, f_, fo_, aint, hac, hnn, hbb, hii, Bool.not_true, Bool.not_false, zA, hk2, qu, cu, gu2, mu, lu2, su, hkk, w1u]; refine hK_ _ _ ?_; clear hK_ K_; repeat first | refine QL ?_ | refine QM ?_) | (refine awp_skip ?_; repeat first | refine QL ?_ | refine QM ?_)))
        refine ⟨(k + 1, T2.set gu (.own ((us.set k (us.getD k 0 + 1)).map U8))), ⟨by simp only []; omega, m2.set _ (by omega), _, by rw [List.length_set]; exact hus, gset _ _ _ gu2⟩, (by repeat first | exact Forgets.nil | refine Forgets.cons (by first | (simp only [look, ↓reduceIte, Nat.reduceEqDiff]; done) | (simp only [look, ↓reduceIte, Nat.reduceEqDiff]; rfl) | simp [look, hkk]) ?_), ?_⟩
        first | omega | exact ⟨rfl, by omega⟩ | exact ⟨rfl, by simp only []; omega⟩ | (simp only []; omega)
      obtain rfl : k = 128 := by omega
      iterate 1 ((repeat first | refine Qo ?_ | refine Qn ?_); (first | (refine QK (by kernel_rfl) ?_; intro K_ hK_; simp -implicitDefEqProofs (maxSteps := 1000000) (disch := (try simp only [sl]); try omega) only [sm,QJ,Qj,Qi,Qq,QC,bd,look,aput,QI,abin,anil,ty,↓reduceIte,Nat.reduceEqDiff,Nat.reduceAdd,Nat.reduceSub,Nat.reduceMul,Int.reduceLT,Int.reduceLE,Int.reduceNeg,Int.reduceToNat,reduceCtorEq,Nat.reduceBEq,Nat.reduceBNe,Qk,Qe,Value.cells,am,mm,keep, f_, fo_, aint, hac, hnn, hbb, hii, Bool.not_true, Bool.not_false, zA, hk2]; refine hK_ _ _ ?_; clear hK_ K_; repeat first | refine QL ?_ | refine QM ?_)))
      repeat first | refine Qo ?_ | refine Qn ?_
      refine awp_if false rfl (by simp only [aeval_tmp, look, ↓reduceIte, Nat.reduceEqDiff]; try rfl) (fun h => absurd h (by decide)) (fun _ => ?_)
      have J2' := J9.mono m2
      clear f_ fo_ N_
      have N_ : Now H T2 [] := ⟨J2'.x, trivial⟩
      have f_ := N_.has
      simp only [Has] at f_
      have fo_ := True.intro
      have ll2 := ac_length J9.w
      have lt2 := ac_take J9.w
      have lo2 := ac_ovr zero_wf J9.w
      have lq2 := aeqa J9.w
      have hG := get_state J9.w J9.st
      iterate 1 ((repeat first | refine Qo ?_ | refine Qn ?_); (first | (refine QK (by kernel_rfl) ?_; intro K_ hK_; simp -implicitDefEqProofs (maxSteps := 1000000) (disch := (try simp only [sl]); try omega) only [sm,QJ,Qj,Qi,Qq,QC,bd,look,aput,Qm,Qh,ty,↓reduceIte,Nat.reduceEqDiff,Nat.reduceAdd,Nat.reduceSub,Nat.reduceMul,Int.reduceLT,Int.reduceLE,Int.reduceNeg,Int.reduceToNat,reduceCtorEq,Nat.reduceBEq,Nat.reduceBNe,Qk,Qe,Value.cells,am,mm,keep, f_, fo_, aint, hac, hnn, hbb, hii, Bool.not_true, Bool.not_false, zA, hzl, ll2, lt2, lo2, lq2]; refine hK_ _ _ ?_; clear hK_ K_; repeat first | refine QL ?_ | refine QM ?_) | (refine awp_exit ?_; (repeat first | refine aThen_exit ?_ | refine aIn_out rfl ?_); refine aIn_here ?_; repeat first | refine QL ?_ | refine QM ?_)))
      (repeat first | refine Qo ?_ | refine Qn ?_); refine QK (by kernel_rfl) ?_; intro K_ hK_; simp -implicitDefEqProofs (maxSteps := 1000000) (disch := (try simp only [sl]); try omega) only [sm,QJ,Qj,Qi,Qq,QC,bd,look,aput,Qm,Qh,ty,↓reduceIte,Nat.reduceEqDiff,Nat.reduceAdd,Nat.reduceSub,Nat.reduceMul,Int.reduceLT,Int.reduceLE,Int.reduceNeg,Int.reduceToNat,reduceCtorEq,Nat.reduceBEq,Nat.reduceBNe,Qk,Qe,Value.cells,am,mm,keep, f_, fo_, aint, hac, hnn, hbb, hii, Bool.not_true, Bool.not_false, zA, hzl, ll2, lt2, lo2, lq2]
      refine ACalls.mono (get_calls gr rv' ev' (rawOf true (a)) T2 J2'.hr J2'.o1.sl (rawOf_length J9.w)) ?_
      rintro _ T3 ⟨rfl, m3⟩
      rw [hG.1, hG.2]
      replace N_ := N_.grow m3
      clear fo_; have fo_ := f_; clear f_
      have f_ := N_.has
      simp only [Has] at f_
      simp only [if_true]
      try simp -implicitDefEqProofs (maxSteps := 1000000) (disch := (try simp only [sl]); try omega) only [sm,QJ,Qj,Qi,Qq,QC,bd,look,aput,Qm,Qh,ty,↓reduceIte,Nat.reduceEqDiff,Nat.reduceAdd,Nat.reduceSub,Nat.reduceMul,Int.reduceLT,Int.reduceLE,Int.reduceNeg,Int.reduceToNat,reduceCtorEq,Nat.reduceBEq,Nat.reduceBNe,Qk,Qe,Value.cells,am,mm,keep, f_, fo_, aint, hac, hnn, hbb, hii, Bool.not_true, Bool.not_false, zA, hzl, ll2, lt2, lo2, lq2]
      try (refine hK_ _ _ ?_; clear hK_ K_; repeat first | refine QL ?_ | refine QM ?_)
      first | refine AWp.snap8 N_ ?_ | refine AWp.snap7 N_ ?_ | refine AWp.snap6 N_ ?_ | refine AWp.snap5 N_ ?_ | refine AWp.snap4 N_ ?_ | refine AWp.snap3 N_ ?_ | refine AWp.snap2 N_ ?_ | refine AWp.snap1 N_ ?_
      clear fo_; have fo_ := f_; clear f_ N_; intro T4 xT4 lT4 N_
      have f_ := N_.has
      simp only [Has] at f_
      have J4' := (J2'.mono m3).mono xT4
      have hl4 := J4'.hl
      have cl4 := AH.cells_own hl4
      have lw4 := alen_sl (P := Tryd.prog) (T := 96) (by simp only [ty]) J4'.o5.sl
      rw [List.length_map] at lw4
      have b00 : ((0 : Int) == 0) = true := rfl
      have b60 : ((6 : Int) == 0) = false := rfl
      (repeat first | refine Qo ?_ | refine Qn ?_); refine QK (by kernel_rfl) ?_; intro K_ hK_; simp -implicitDefEqProofs (maxSteps := 1000000) (disch := (try simp only [sl]); try omega) only [sm,QJ,Qj,Qi,Qq,QC,Qz,bd,QF,look,aput,Qm,QI,abin,anil,QG,QA,ty,↓reduceIte,Nat.reduceEqDiff,Nat.reduceAdd,Nat.reduceSub,Nat.reduceMul,Int.reduceLT,Int.reduceLE,Int.reduceNeg,Int.reduceToNat,reduceCtorEq,Nat.reduceBEq,Nat.reduceBNe,Qk,Qe,Value.cells,am,mm,keep, f_, fo_, aint, hac, hnn, hbb, hii, Bool.not_true, Bool.not_false, zA, hzl, ll2, lt2, lo2, lq2, hl4, cl4, b00, b60]
      refine ACalls.mono (count_calls gr rv' ev' (eps ++ [a.ep]) T4 J4'.hr J4'.o2.sl (by (try simp only [List.length_append, List.length_singleton]); omega)) ?_
      rintro _ T5 ⟨rfl, m5⟩
      replace N_ := N_.grow m5
      clear fo_; have fo_ := f_; clear f_
      have f_ := N_.has
      simp only [Has] at f_
      try simp -implicitDefEqProofs (maxSteps := 1000000) (disch := (try simp only [sl]); try omega) only [sm,QJ,Qj,Qi,Qq,QC,Qz,bd,QF,look,aput,Qm,QI,abin,anil,QG,QA,ty,↓reduceIte,Nat.reduceEqDiff,Nat.reduceAdd,Nat.reduceSub,Nat.reduceMul,Int.reduceLT,Int.reduceLE,Int.reduceNeg,Int.reduceToNat,reduceCtorEq,Nat.reduceBEq,Nat.reduceBNe,Qk,Qe,Value.cells,am,mm,keep, f_, fo_, aint, hac, hnn, hbb, hii, Bool.not_true, Bool.not_false, zA, hzl, ll2, lt2, lo2, lq2, lw4]
      try (refine hK_ _ _ ?_; clear hK_ K_; repeat first | refine QL ?_ | refine QM ?_)
      repeat first | refine Qo ?_ | refine Qn ?_
      refine awp_if false rfl (by simp only [aeval_tmp, look, ↓reduceIte, Nat.reduceEqDiff]; try rfl) (fun h => absurd h (by decide)) (fun _ => ?_)
      have hii2 : IntKind.i64.wrap ((i : Int) + 1) = (i : Int) + 1 := wi64 _ (by omega) (by omega)
      iterate 2 ((repeat first | refine Qo ?_ | refine Qn ?_); (first | (refine QK (by kernel_rfl) ?_; intro K_ hK_; simp -implicitDefEqProofs (maxSteps := 1000000) (disch := (try simp only [sl]); try omega) only [sm,QJ,Qj,Qi,Qq,QC,bd,look,aput,QI,abin,anil,ty,↓reduceIte,Nat.reduceEqDiff,Nat.reduceAdd,Nat.reduceSub,Nat.reduceMul,Int.reduceLT,Int.reduceLE,Int.reduceNeg,Int.reduceToNat,reduceCtorEq,Nat.reduceBEq,Nat.reduceBNe,Qk,Qe,Value.cells,am,mm,keep, f_, fo_, aint, hac, hnn, hbb, hii, Bool.not_true, Bool.not_false, zA, hzl, ll2, lt2, lo2, lq2, hii2]; refine hK_ _ _ ?_; clear hK_ K_; repeat first | refine QL ?_ | refine QM ?_) | (refine awp_skip ?_; repeat first | refine QL ?_ | refine QM ?_)))
      refine ⟨(i + 1, eps ++ [a.ep], a, true, rv', ev', zv', zev', w7, T5), ⟨by simp only []; omega, by (try simp only [List.length_append, List.length_singleton]); omega, J4'.mono m5, by have := got_lt (J4'.mono m5).hl; exact this⟩, (by repeat first | exact Forgets.nil | refine Forgets.cons (by first | (simp only [look, ↓reduceIte, Nat.reduceEqDiff]; done) | (simp only [look, ↓reduceIte, Nat.reduceEqDiff]; rfl) | simp [look, hii2]) ?_), ?_⟩
      first | omega | exact ⟨rfl, by omega⟩ | exact ⟨rfl, by simp only []; omega⟩ | (simp only []; omega)

    · -- extras
      refine ACalls.mono (set_bad_calls gr rv ev a K2 J2.hr ha hm) ?_
      rintro _ K3 ⟨rfl, k3⟩
      replace N_ := N_.grow k3
      clear fo_; have fo_ := f_; clear f_
      have f_ := N_.has
      simp only [Has] at f_
      have h10 : ((1 : Int) == 0) = false := rfl
      try simp -implicitDefEqProofs (maxSteps := 1000000) (disch := (try simp only [sl]); try omega) only [sm,QJ,Qj,Qi,Qq,QC,Qz,bd,QF,look,aput,Qm,QA,ty,↓reduceIte,Nat.reduceEqDiff,Nat.reduceAdd,Nat.reduceSub,Nat.reduceMul,Int.reduceLT,Int.reduceLE,Int.reduceNeg,Int.reduceToNat,reduceCtorEq,Nat.reduceBEq,Nat.reduceBNe,Qk,Qe,Value.cells,am,mm,keep, f_, fo_, aint, hac, aal, atk, aep, hnn, hbb, hii, Bool.not_true]
      try (refine hK_ _ _ ?_; clear hK_ K_; repeat first | refine QL ?_ | refine QM ?_)
      (repeat first | refine Qo ?_ | refine Qn ?_); refine QK (by kernel_rfl) ?_; intro K_ hK_; simp -implicitDefEqProofs (maxSteps := 1000000) (disch := (try simp only [sl]); try omega) only [sm,QJ,Qj,Qi,Qq,QC,Qz,bd,QF,look,aput,Qm,QI,abin,anil,QA,ty,↓reduceIte,Nat.reduceEqDiff,Nat.reduceAdd,Nat.reduceSub,Nat.reduceMul,Int.reduceLT,Int.reduceLE,Int.reduceNeg,Int.reduceToNat,reduceCtorEq,Nat.reduceBEq,Nat.reduceBNe,Qk,Qe,Value.cells,am,mm,keep, f_, fo_, aint, hac, aal, atk, aep, hnn, hbb, hii, Bool.not_true, h10]
      refine ACalls.mono (refmay_calls a K3 ha) ?_
      rintro _ K4 ⟨rfl, k4⟩
      replace N_ := N_.grow k4
      clear fo_; have fo_ := f_; clear f_
      have f_ := N_.has
      simp only [Has] at f_
      try simp -implicitDefEqProofs (maxSteps := 1000000) (disch := (try simp only [sl]); try omega) only [sm,QJ,Qj,Qi,Qq,QC,Qz,bd,QF,look,aput,Qm,QI,abin,anil,QA,ty,↓reduceIte,Nat.reduceEqDiff,Nat.reduceAdd,Nat.reduceSub,Nat.reduceMul,Int.reduceLT,Int.reduceLE,Int.reduceNeg,Int.reduceToNat,reduceCtorEq,Nat.reduceBEq,Nat.reduceBNe,Qk,Qe,Value.cells,am,mm,keep, f_, fo_, aint, hac, aal, atk, aep, hnn, hbb, hii, Bool.not_true, decide_eq_false hm]
      try (refine hK_ _ _ ?_; clear hK_ K_; repeat first | refine QL ?_ | refine QM ?_)
      refine ACalls.mono (theirs_calls a K4 ha) ?_
      rintro _ K5 ⟨rfl, k5⟩
      replace N_ := N_.grow k5
      clear fo_; have fo_ := f_; clear f_
      have f_ := N_.has
      simp only [Has] at f_
      try simp -implicitDefEqProofs (maxSteps := 1000000) (disch := (try simp only [sl]); try omega) only [sm,QJ,Qj,Qi,Qq,QC,Qz,bd,QF,look,aput,Qm,QI,abin,anil,QA,ty,↓reduceIte,Nat.reduceEqDiff,Nat.reduceAdd,Nat.reduceSub,Nat.reduceMul,Int.reduceLT,Int.reduceLE,Int.reduceNeg,Int.reduceToNat,reduceCtorEq,Nat.reduceBEq,Nat.reduceBNe,Qk,Qe,Value.cells,am,mm,keep, f_, fo_, aint, hac, aal, atk, aep, hnn, hbb, hii, Bool.not_true]
      try (refine hK_ _ _ ?_; clear hK_ K_; repeat first | refine QL ?_ | refine QM ?_)
      have k25 := k3.trans (k4.trans k5)
      refine ACalls.mono (set_bad_calls gz zv zev a K5 (J2.mono k25).hz ha hm) ?_
      rintro _ K6 ⟨rfl, k6⟩
      replace N_ := N_.grow k6
      clear fo_; have fo_ := f_; clear f_
      have f_ := N_.has
      simp only [Has] at f_
      try simp -implicitDefEqProofs (maxSteps := 1000000) (disch := (try simp only [sl]); try omega) only [sm,QJ,Qj,Qi,Qq,QC,Qz,bd,QF,look,aput,Qm,QI,abin,anil,QA,ty,↓reduceIte,Nat.reduceEqDiff,Nat.reduceAdd,Nat.reduceSub,Nat.reduceMul,Int.reduceLT,Int.reduceLE,Int.reduceNeg,Int.reduceToNat,reduceCtorEq,Nat.reduceBEq,Nat.reduceBNe,Qk,Qe,Value.cells,am,mm,keep, f_, fo_, aint, hac, aal, atk, aep, hnn, hbb, hii, Bool.not_true]
      try (refine hK_ _ _ ?_; clear hK_ K_; repeat first | refine QL ?_ | refine QM ?_)
      repeat first | refine Qo ?_ | refine Qn ?_
      refine awp_if false rfl (by simp only [aeval_tmp, look, ↓reduceIte, Nat.reduceEqDiff]; try rfl) (fun h => absurd h (by decide)) (fun _ => ?_)
      iterate 2 ((repeat first | refine Qo ?_ | refine Qn ?_); (first | (refine QK (by kernel_rfl) ?_; intro K_ hK_; simp -implicitDefEqProofs (maxSteps := 1000000) (disch := (try simp only [sl]); try omega) only [sm,QJ,Qj,Qi,Qq,QC,bd,look,aput,QI,abin,anil,ty,↓reduceIte,Nat.reduceEqDiff,Nat.reduceAdd,Nat.reduceSub,Nat.reduceMul,Int.reduceLT,Int.reduceLE,Int.reduceNeg,Int.reduceToNat,reduceCtorEq,Nat.reduceBEq,Nat.reduceBNe,Qk,Qe,Value.cells,am,mm,keep, f_, fo_, aint, hac, aal, atk, aep, hnn, hbb, hii, Bool.not_true, h10]; refine hK_ _ _ ?_; clear hK_ K_; repeat first | refine QL ?_ | refine QM ?_) | (refine awp_skip ?_; repeat first | refine QL ?_ | refine QM ?_)))
      repeat first | refine Qo ?_ | refine Qn ?_
      refine awp_if false rfl (by simp only [aeval_tmp, look, ↓reduceIte, Nat.reduceEqDiff]; try rfl) (fun h => absurd h (by decide)) (fun _ => ?_)
      have J9 := J2.mono (k25.trans k6)
      have g9 := got_lt J9.hl
      clear f_ fo_ N_
      rcases J.st with ⟨rfl, hlm⟩ | ⟨rfl, rfl⟩
      · have N_ : Now H K6 [] := ⟨J9.x, trivial⟩
        have f_ := N_.has
        simp only [Has] at f_
        have fo_ := True.intro
        iterate 1 ((repeat first | refine Qo ?_ | refine Qn ?_); (first | (refine QK (by kernel_rfl) ?_; intro K_ hK_; simp -implicitDefEqProofs (maxSteps := 1000000) (disch := (try simp only [sl]); try omega) only [sm,QJ,Qj,Qi,Qq,QC,bd,look,aput,Qm,ty,↓reduceIte,Nat.reduceEqDiff,Nat.reduceAdd,Nat.reduceSub,Nat.reduceMul,Int.reduceLT,Int.reduceLE,Int.reduceNeg,Int.reduceToNat,reduceCtorEq,Nat.reduceBEq,Nat.reduceBNe,Qk,Qe,Value.cells,am,mm,keep, f_, fo_, aint, hac, hnn, hbb, hii, Bool.not_true, Bool.not_false, zA]; refine hK_ _ _ ?_; clear hK_ K_; repeat first | refine QL ?_ | refine QM ?_) | (refine awp_skip ?_; repeat first | refine QL ?_ | refine QM ?_)))
        (repeat first | refine Qo ?_ | refine Qn ?_); refine QK (by kernel_rfl) ?_; intro K_ hK_; simp -implicitDefEqProofs (maxSteps := 1000000) (disch := (try simp only [sl]); try omega) only [sm,QJ,Qj,Qi,Qq,QC,bd,look,aput,Qm,ty,↓reduceIte,Nat.reduceEqDiff,Nat.reduceAdd,Nat.reduceSub,Nat.reduceMul,Int.reduceLT,Int.reduceLE,Int.reduceNeg,Int.reduceToNat,reduceCtorEq,Nat.reduceBEq,Nat.reduceBNe,Qk,Qe,Value.cells,am,mm,keep, f_, fo_, aint, hac, hnn, hbb, hii, Bool.not_true, Bool.not_false, zA]
        refine ACalls.mono (raw_calls gr rv ev (rawOf true (last)) K6 J9.hr J9.o1.sl (rawOf_length J9.w)) ?_
        rintro u T1 ⟨u1, m1⟩
        replace N_ := N_.grow m1
        clear fo_; have fo_ := f_; clear f_
        have f_ := N_.has
        simp only [Has] at f_
        try simp -implicitDefEqProofs (maxSteps := 1000000) (disch := (try simp only [sl]); try omega) only [sm,QJ,Qj,Qi,Qq,QC,bd,look,aput,Qm,ty,↓reduceIte,Nat.reduceEqDiff,Nat.reduceAdd,Nat.reduceSub,Nat.reduceMul,Int.reduceLT,Int.reduceLE,Int.reduceNeg,Int.reduceToNat,reduceCtorEq,Nat.reduceBEq,Nat.reduceBNe,Qk,Qe,Value.cells,am,mm,keep, f_, fo_, aint, hac, hnn, hbb, hii, Bool.not_true, Bool.not_false, zA]
        try (refine hK_ _ _ ?_; clear hK_ K_; repeat first | refine QL ?_ | refine QM ?_)
        have hbl := abytes_length J9.w
        have hrw : rawOf true (last) = (last).bytes := rfl
        rw [hrw] at u1
        obtain ⟨gu, rfl, hgu, hbu, hlu⟩ := u1.at (by rw [List.length_map, hbl]; decide)
        rw [List.length_map, hbl]
        iterate 1 ((repeat first | refine Qo ?_ | refine Qn ?_); (first | (refine QK (by kernel_rfl) ?_; intro K_ hK_; simp -implicitDefEqProofs (maxSteps := 1000000) (disch := (try simp only [sl]); try omega) only [sm,QJ,Qj,Qi,Qq,QC,bd,look,aput,ty,↓reduceIte,Nat.reduceEqDiff,Nat.reduceAdd,Nat.reduceSub,Nat.reduceMul,Int.reduceLT,Int.reduceLE,Int.reduceNeg,Int.reduceToNat,reduceCtorEq,Nat.reduceBEq,Nat.reduceBNe,Qk,Qe,Value.cells,am,mm,keep, f_, fo_, aint, hac, hnn, hbb, hii, Bool.not_true, Bool.not_false, zA]; refine hK_ _ _ ?_; clear hK_ K_; repeat first | refine QL ?_ | refine QM ?_)))
        repeat first | refine Qo ?_ | refine Qn ?_
        refine awp_forK [6, 7, 8, 9, 10, 14, 67, 68, 69, 102] (fun y : Nat × AH => [(103, I64 y.1)]) (fun y : Nat × AH => y.2) (fun y : Nat × AH => y.1 ≤ 128 ∧ Ext K6 y.2 ∧ (∃ us : List UInt8, us.length = 128 ∧ y.2[gu]? = some (.own (us.map U8)))) (fun y : Nat × AH => 128 - y.1) ((0, T1)) (⟨Nat.zero_le _, m1, _, hbl, hgu⟩) (by repeat first | exact Forgets.nil | refine Forgets.cons (by first | (simp only [look, ↓reduceIte, Nat.reduceEqDiff]; done) | (simp only [look, ↓reduceIte, Nat.reduceEqDiff]; rfl) | simp [look, hii2]) ?_) rfl ?_
        rintro ⟨k, T2⟩ ⟨hk, m2, us, hus, qu⟩
        simp only [] at hk m2 hus qu ⊢
        by_cases hk2 : k < 128
        · have cu := AH.cells_own qu
          have gu2 := got_lt qu
          have mu := mg8 us k (by omega)
          have lu2 : (us.map U8).length = 128 := by rw [List.length_map, hus]
          have su := ms8 us k (us.getD k 0 + 1)
          have hkk : IntKind.i64.wrap ((k : Int) + 1) = (k : Int) + 1 := wi64 _ (by omega) (by omega)
          have h1u : U8 1 = .int .u8 1 := rfl
          have w1u : IntKind.u8.wrap (((us.getD k 0).toNat : Int) + 1) = ((us.getD k 0 + 1).toNat : Int) := by rw [wrap8, UInt8.toNat_add]; rfl
          iterate 1 ((repeat first | refine Qo ?_ | refine Qn ?_); (first | (refine QK (by kernel_rfl) ?_; intro K_ hK_; simp -implicitDefEqProofs (maxSteps := 1000000) (disch := (try simp only [sl]); try omega) only [sm,QJ,Qj,Qi,Qq,QC,bd,look,aput,QI,abin,anil,ty,↓reduceIte,Nat.reduceEqDiff,Nat.reduceAdd,Nat.reduceSub,Nat.reduceMul,Int.reduceLT,Int.reduceLE,Int.reduceNeg,Int.reduceToNat,reduceCtorEq,Nat.reduceBEq,Nat.reduceBNe,Qk,Qe,Value.cells,am,mm,keep, f_, fo_, aint, hac, hnn, hbb, hii, Bool.not_true, Bool.not_false, zA, hk2]; refine hK_ _ _ ?_; clear hK_ K_; repeat first | refine QL ?_ | refine QM ?_)))
          repeat first | refine Qo ?_ | refine Qn ?_
          refine awp_if true rfl (by simp only [aeval_tmp, look, ↓reduceIte, Nat.reduceEqDiff]; try rfl) (fun _ => ?_) (fun h => absurd h (by decide))
          iterate 4 ((repeat first | refine Qo ?_ | refine Qn ?_); (first | (refine QK (by kernel_rfl) ?_; intro K_ hK_; simp -implicitDefEqProofs (maxSteps := 1000000) (disch := (try simp only [sl]); try omega) only [sm,QJ,Qj,Qi,Qq,QC,Qz,bd,QF,look,aput,Qm,QI,abin,anil,Qb,QA,ty,↓reduceIte,Nat.reduceEqDiff,Nat.reduceAdd,Nat.reduceSub,Nat.reduceMul,Int.reduceLT,Int.reduceLE,Int.reduceNeg,Int.reduceToNat,reduceCtorEq,Nat.reduceBEq,Nat.reduceBNe,Qk,Qe,Value.cells,am,mm,keep, f_, fo_, aint, hac, hnn, hbb, hii, Bool.not_true, Bool.not_false, zA, hk2, qu, cu, gu2, mu, lu2, su, hkk, w1u]; refine hK_ _ _ ?_; clear hK_ K_; repeat first | refine QL ?_ | refine QM ?_) | (refine awp_skip ?_; repeat first | refine QL ?_ | refine QM ?_)))
          refine ⟨(k + 1, T2.set gu (.own ((us.set k (us.getD k 0 + 1)).map U8))), ⟨by simp only []; omega, m2.set _ (by omega), _, by rw [List.length_set]; exact hus, gset _ _ _ gu2⟩, (by repeat first | exact Forgets.nil | refine Forgets.cons (by first | (simp only [look, ↓reduceIte, Nat.reduceEqDiff]; done) | (simp only [look, ↓reduceIte, Nat.reduceEqDiff]; rfl) | simp [look, hkk]) ?_), ?_⟩
          first | omega | exact ⟨rfl, by omega⟩ | exact ⟨rfl, by simp only []; omega⟩ | (simp only []; omega)
        obtain rfl : k = 128 := by omega
        iterate 1 ((repeat first | refine Qo ?_ | refine Qn ?_); (first | (refine QK (by kernel_rfl) ?_; intro K_ hK_; simp -implicitDefEqProofs (maxSteps := 1000000) (disch := (try simp only [sl]); try omega) only [sm,QJ,Qj,Qi,Qq,QC,bd,look,aput,QI,abin,anil,ty,↓reduceIte,Nat.reduceEqDiff,Nat.reduceAdd,Nat.reduceSub,Nat.reduceMul,Int.reduceLT,Int.reduceLE,Int.reduceNeg,Int.reduceToNat,reduceCtorEq,Nat.reduceBEq,Nat.reduceBNe,Qk,Qe,Value.cells,am,mm,keep, f_, fo_, aint, hac, hnn, hbb, hii, Bool.not_true, Bool.not_false, zA, hk2]; refine hK_ _ _ ?_; clear hK_ K_; repeat first | refine QL ?_ | refine QM ?_)))
        repeat first | refine Qo ?_ | refine Qn ?_
        refine awp_if false rfl (by simp only [aeval_tmp, look, ↓reduceIte, Nat.reduceEqDiff]; try rfl) (fun h => absurd h (by decide)) (fun _ => ?_)
        have J2' := J9.mono m2
        clear f_ fo_ N_
        have N_ : Now H T2 [] := ⟨J2'.x, trivial⟩
        have f_ := N_.has
        simp only [Has] at f_
        have fo_ := True.intro
        have ll2 := ac_length J9.w
        have lt2 := ac_take J9.w
        have lo2 := ac_ovr zero_wf J9.w
        have lq2 := aeqa J9.w
        have hG := get_state J9.w J9.st
        iterate 1 ((repeat first | refine Qo ?_ | refine Qn ?_); (first | (refine QK (by kernel_rfl) ?_; intro K_ hK_; simp -implicitDefEqProofs (maxSteps := 1000000) (disch := (try simp only [sl]); try omega) only [sm,QJ,Qj,Qi,Qq,QC,bd,look,aput,Qm,Qh,ty,↓reduceIte,Nat.reduceEqDiff,Nat.reduceAdd,Nat.reduceSub,Nat.reduceMul,Int.reduceLT,Int.reduceLE,Int.reduceNeg,Int.reduceToNat,reduceCtorEq,Nat.reduceBEq,Nat.reduceBNe,Qk,Qe,Value.cells,am,mm,keep, f_, fo_, aint, hac, hnn, hbb, hii, Bool.not_true, Bool.not_false, zA, hzl, ll2, lt2, lo2, lq2]; refine hK_ _ _ ?_; clear hK_ K_; repeat first | refine QL ?_ | refine QM ?_) | (refine awp_exit ?_; (repeat first | refine aThen_exit ?_ | refine aIn_out rfl ?_); refine aIn_here ?_; repeat first | refine QL ?_ | refine QM ?_)))
        (repeat first | refine Qo ?_ | refine Qn ?_); refine QK (by kernel_rfl) ?_; intro K_ hK_; simp -implicitDefEqProofs (maxSteps := 1000000) (disch := (try simp only [sl]); try omega) only [sm,QJ,Qj,Qi,Qq,QC,bd,look,aput,Qm,Qh,ty,↓reduceIte,Nat.reduceEqDiff,Nat.reduceAdd,Nat.reduceSub,Nat.reduceMul,Int.reduceLT,Int.reduceLE,Int.reduceNeg,Int.reduceToNat,reduceCtorEq,Nat.reduceBEq,Nat.reduceBNe,Qk,Qe,Value.cells,am,mm,keep, f_, fo_, aint, hac, hnn, hbb, hii, Bool.not_true, Bool.not_false, zA, hzl, ll2, lt2, lo2, lq2]
        refine ACalls.mono (get_calls gr rv ev (rawOf true (last)) T2 J2'.hr J2'.o1.sl (rawOf_length J9.w)) ?_
        rintro _ T3 ⟨rfl, m3⟩
        rw [hG.1, hG.2]
        replace N_ := N_.grow m3
        clear fo_; have fo_ := f_; clear f_
        have f_ := N_.has
        simp only [Has] at f_
        simp only [if_true]
        try simp -implicitDefEqProofs (maxSteps := 1000000) (disch := (try simp only [sl]); try omega) only [sm,QJ,Qj,Qi,Qq,QC,bd,look,aput,Qm,Qh,ty,↓reduceIte,Nat.reduceEqDiff,Nat.reduceAdd,Nat.reduceSub,Nat.reduceMul,Int.reduceLT,Int.reduceLE,Int.reduceNeg,Int.reduceToNat,reduceCtorEq,Nat.reduceBEq,Nat.reduceBNe,Qk,Qe,Value.cells,am,mm,keep, f_, fo_, aint, hac, hnn, hbb, hii, Bool.not_true, Bool.not_false, zA, hzl, ll2, lt2, lo2, lq2]
        try (refine hK_ _ _ ?_; clear hK_ K_; repeat first | refine QL ?_ | refine QM ?_)
        first | refine AWp.snap8 N_ ?_ | refine AWp.snap7 N_ ?_ | refine AWp.snap6 N_ ?_ | refine AWp.snap5 N_ ?_ | refine AWp.snap4 N_ ?_ | refine AWp.snap3 N_ ?_ | refine AWp.snap2 N_ ?_ | refine AWp.snap1 N_ ?_
        clear fo_; have fo_ := f_; clear f_ N_; intro T4 xT4 lT4 N_
        have f_ := N_.has
        simp only [Has] at f_
        have J4' := (J2'.mono m3).mono xT4
        have hl4 := J4'.hl
        have cl4 := AH.cells_own hl4
        have lw4 := alen_sl (P := Tryd.prog) (T := 96) (by simp only [ty]) J4'.o5.sl
        rw [List.length_map] at lw4
        have b00 : ((0 : Int) == 0) = true := rfl
        have b60 : ((6 : Int) == 0) = false := rfl
        (repeat first | refine Qo ?_ | refine Qn ?_); refine QK (by kernel_rfl) ?_; intro K_ hK_; simp -implicitDefEqProofs (maxSteps := 1000000) (disch := (try simp only [sl]); try omega) only [sm,QJ,Qj,Qi,Qq,QC,Qz,bd,QF,look,aput,Qm,QI,abin,anil,QG,QA,ty,↓reduceIte,Nat.reduceEqDiff,Nat.reduceAdd,Nat.reduceSub,Nat.reduceMul,Int.reduceLT,Int.reduceLE,Int.reduceNeg,Int.reduceToNat,reduceCtorEq,Nat.reduceBEq,Nat.reduceBNe,Qk,Qe,Value.cells,am,mm,keep, f_, fo_, aint, hac, hnn, hbb, hii, Bool.not_true, Bool.not_false, zA, hzl, ll2, lt2, lo2, lq2, hl4, cl4, b00, b60]
        refine ACalls.mono (count_calls gr rv ev (eps) T4 J4'.hr J4'.o2.sl (by (try simp only [List.length_append, List.length_singleton]); omega)) ?_
        rintro _ T5 ⟨rfl, m5⟩
        replace N_ := N_.grow m5
        clear fo_; have fo_ := f_; clear f_
        have f_ := N_.has
        simp only [Has] at f_
        try simp -implicitDefEqProofs (maxSteps := 1000000) (disch := (try simp only [sl]); try omega) only [sm,QJ,Qj,Qi,Qq,QC,Qz,bd,QF,look,aput,Qm,QI,abin,anil,QG,QA,ty,↓reduceIte,Nat.reduceEqDiff,Nat.reduceAdd,Nat.reduceSub,Nat.reduceMul,Int.reduceLT,Int.reduceLE,Int.reduceNeg,Int.reduceToNat,reduceCtorEq,Nat.reduceBEq,Nat.reduceBNe,Qk,Qe,Value.cells,am,mm,keep, f_, fo_, aint, hac, hnn, hbb, hii, Bool.not_true, Bool.not_false, zA, hzl, ll2, lt2, lo2, lq2, lw4]
        try (refine hK_ _ _ ?_; clear hK_ K_; repeat first | refine QL ?_ | refine QM ?_)
        repeat first | refine Qo ?_ | refine Qn ?_
        refine awp_if false rfl (by simp only [aeval_tmp, look, ↓reduceIte, Nat.reduceEqDiff]; try rfl) (fun h => absurd h (by decide)) (fun _ => ?_)
        have hii2 : IntKind.i64.wrap ((i : Int) + 1) = (i : Int) + 1 := wi64 _ (by omega) (by omega)
        iterate 2 ((repeat first | refine Qo ?_ | refine Qn ?_); (first | (refine QK (by kernel_rfl) ?_; intro K_ hK_; simp -implicitDefEqProofs (maxSteps := 1000000) (disch := (try simp only [sl]); try omega) only [sm,QJ,Qj,Qi,Qq,QC,bd,look,aput,QI,abin,anil,ty,↓reduceIte,Nat.reduceEqDiff,Nat.reduceAdd,Nat.reduceSub,Nat.reduceMul,Int.reduceLT,Int.reduceLE,Int.reduceNeg,Int.reduceToNat,reduceCtorEq,Nat.reduceBEq,Nat.reduceBNe,Qk,Qe,Value.cells,am,mm,keep, f_, fo_, aint, hac, hnn, hbb, hii, Bool.not_true, Bool.not_false, zA, hzl, ll2, lt2, lo2, lq2, hii2]; refine hK_ _ _ ?_; clear hK_ K_; repeat first | refine QL ?_ | refine QM ?_) | (refine awp_skip ?_; repeat first | refine QL ?_ | refine QM ?_)))
        refine ⟨(i + 1, eps, last, true, rv, ev, zv, zev, wv, T5), ⟨by simp only []; omega, by (try simp only [List.length_append, List.length_singleton]); omega, J4'.mono m5, by have := got_lt (J4'.mono m5).hl; exact this⟩, (by repeat first | exact Forgets.nil | refine Forgets.cons (by first | (simp only [look, ↓reduceIte, Nat.reduceEqDiff]; done) | (simp only [look, ↓reduceIte, Nat.reduceEqDiff]; rfl) | simp [look, hii2]) ?_), ?_⟩
        first | omega | exact ⟨rfl, by omega⟩ | exact ⟨rfl, by simp only []; omega⟩ | (simp only []; omega)

      · -- (cursor back)
        have N_ : Now H K6 [] := ⟨J9.x, trivial⟩
        have f_ := N_.has
        simp only [Has] at f_
        have fo_ := True.intro
        iterate 1 ((repeat first | refine Qo ?_ | refine Qn ?_); (first | (refine QK (by kernel_rfl) ?_; intro K_ hK_; simp -implicitDefEqProofs (maxSteps := 1000000) (disch := (try simp only [sl]); try omega) only [sm,QJ,Qj,Qi,Qq,QC,bd,look,aput,Qm,ty,↓reduceIte,Nat.reduceEqDiff,Nat.reduceAdd,Nat.reduceSub,Nat.reduceMul,Int.reduceLT,Int.reduceLE,Int.reduceNeg,Int.reduceToNat,reduceCtorEq,Nat.reduceBEq,Nat.reduceBNe,Qk,Qe,Value.cells,am,mm,keep, f_, fo_, aint, hac, hnn, hbb, hii, Bool.not_true, Bool.not_false, zA]; refine hK_ _ _ ?_; clear hK_ K_; repeat first | refine QL ?_ | refine QM ?_) | (refine awp_skip ?_; repeat first | refine QL ?_ | refine QM ?_)))
        (repeat first | refine Qo ?_ | refine Qn ?_); refine QK (by kernel_rfl) ?_; intro K_ hK_; simp -implicitDefEqProofs (maxSteps := 1000000) (disch := (try simp only [sl]); try omega) only [sm,QJ,Qj,Qi,Qq,QC,bd,look,aput,Qm,ty,↓reduceIte,Nat.reduceEqDiff,Nat.reduceAdd,Nat.reduceSub,Nat.reduceMul,Int.reduceLT,Int.reduceLE,Int.reduceNeg,Int.reduceToNat,reduceCtorEq,Nat.reduceBEq,Nat.reduceBNe,Qk,Qe,Value.cells,am,mm,keep, f_, fo_, aint, hac, hnn, hbb, hii, Bool.not_true, Bool.not_false, zA]
        refine ACalls.mono (raw_calls gr rv ev (rawOf false (An.zero)) K6 J9.hr J9.o1.sl (rawOf_length J9.w)) ?_
        rintro u T1 ⟨u1, m1⟩
        replace N_ := N_.grow m1
        clear fo_; have fo_ := f_; clear f_
        have f_ := N_.has
        simp only [Has] at f_
        try simp -implicitDefEqProofs (maxSteps := 1000000) (disch := (try simp only [sl]); try omega) only [sm,QJ,Qj,Qi,Qq,QC,bd,look,aput,Qm,ty,↓reduceIte,Nat.reduceEqDiff,Nat.reduceAdd,Nat.reduceSub,Nat.reduceMul,Int.reduceLT,Int.reduceLE,Int.reduceNeg,Int.reduceToNat,reduceCtorEq,Nat.reduceBEq,Nat.reduceBNe,Qk,Qe,Value.cells,am,mm,keep, f_, fo_, aint, hac, hnn, hbb, hii, Bool.not_true, Bool.not_false, zA]
        try (refine hK_ _ _ ?_; clear hK_ K_; repeat first | refine QL ?_ | refine QM ?_)
        have lu := alen_sl (P := Tryd.prog) (T := 22) (by simp only [ty]) u1.sl
        rw [show (List.map U8 (rawOf false An.zero)).length = 0 from rfl] at lu
        iterate 1 ((repeat first | refine Qo ?_ | refine Qn ?_); (first | (refine QK (by kernel_rfl) ?_; intro K_ hK_; simp -implicitDefEqProofs (maxSteps := 1000000) (disch := (try simp only [sl]); try omega) only [sm,QJ,Qj,Qi,Qq,QC,bd,look,aput,ty,↓reduceIte,Nat.reduceEqDiff,Nat.reduceAdd,Nat.reduceSub,Nat.reduceMul,Int.reduceLT,Int.reduceLE,Int.reduceNeg,Int.reduceToNat,reduceCtorEq,Nat.reduceBEq,Nat.reduceBNe,Qk,Qe,Value.cells,am,mm,keep, f_, fo_, aint, hac, hnn, hbb, hii, Bool.not_true, Bool.not_false, zA, lu]; refine hK_ _ _ ?_; clear hK_ K_; repeat first | refine QL ?_ | refine QM ?_)))
        repeat first | refine Qo ?_ | refine Qn ?_
        refine awp_forK [6, 7, 8, 9, 10, 14, 67, 68, 69, 102] (fun y : Nat => [(103, I64 y)]) (fun y : Nat => T1) (fun y : Nat => y = 0) (fun y : Nat => 0) (0) (rfl) (by repeat first | exact Forgets.nil | refine Forgets.cons (by first | (simp only [look, ↓reduceIte, Nat.reduceEqDiff]; done) | (simp only [look, ↓reduceIte, Nat.reduceEqDiff]; rfl) | simp [look, hii2]) ?_) rfl ?_
        rintro y rfl
        iterate 1 ((repeat first | refine Qo ?_ | refine Qn ?_); (first | (refine QK (by kernel_rfl) ?_; intro K_ hK_; simp -implicitDefEqProofs (maxSteps := 1000000) (disch := (try simp only [sl]); try omega) only [sm,QJ,Qj,Qi,Qq,QC,bd,look,aput,QI,abin,anil,ty,↓reduceIte,Nat.reduceEqDiff,Nat.reduceAdd,Nat.reduceSub,Nat.reduceMul,Int.reduceLT,Int.reduceLE,Int.reduceNeg,Int.reduceToNat,reduceCtorEq,Nat.reduceBEq,Nat.reduceBNe,Qk,Qe,Value.cells,am,mm,keep, f_, fo_, aint, hac, hnn, hbb, hii, Bool.not_true, Bool.not_false, zA]; refine hK_ _ _ ?_; clear hK_ K_; repeat first | refine QL ?_ | refine QM ?_)))
        repeat first | refine Qo ?_ | refine Qn ?_
        refine awp_if false rfl (by simp only [aeval_tmp, look, ↓reduceIte, Nat.reduceEqDiff]; try rfl) (fun h => absurd h (by decide)) (fun _ => ?_)
        have m2 := m1
        have J2' := J9.mono m2
        clear f_ fo_ N_
        have N_ : Now H T1 [] := ⟨J2'.x, trivial⟩
        have f_ := N_.has
        simp only [Has] at f_
        have fo_ := True.intro
        have ll2 := ac_length J9.w
        have lt2 := ac_take J9.w
        have lo2 := ac_ovr zero_wf J9.w
        have lq2 := aeqa J9.w
        have hG := get_state J9.w J9.st
        iterate 1 ((repeat first | refine Qo ?_ | refine Qn ?_); (first | (refine QK (by kernel_rfl) ?_; intro K_ hK_; simp -implicitDefEqProofs (maxSteps := 1000000) (disch := (try simp only [sl]); try omega) only [sm,QJ,Qj,Qi,Qq,QC,bd,look,aput,Qm,Qh,ty,↓reduceIte,Nat.reduceEqDiff,Nat.reduceAdd,Nat.reduceSub,Nat.reduceMul,Int.reduceLT,Int.reduceLE,Int.reduceNeg,Int.reduceToNat,reduceCtorEq,Nat.reduceBEq,Nat.reduceBNe,Qk,Qe,Value.cells,am,mm,keep, f_, fo_, aint, hac, hnn, hbb, hii, Bool.not_true, Bool.not_false, zA, hzl, ll2, lt2, lo2, lq2]; refine hK_ _ _ ?_; clear hK_ K_; repeat first | refine QL ?_ | refine QM ?_) | (refine awp_exit ?_; (repeat first | refine aThen_exit ?_ | refine aIn_out rfl ?_); refine aIn_here ?_; repeat first | refine QL ?_ | refine QM ?_)))
        (repeat first | refine Qo ?_ | refine Qn ?_); refine QK (by kernel_rfl) ?_; intro K_ hK_; simp -implicitDefEqProofs (maxSteps := 1000000) (disch := (try simp only [sl]); try omega) only [sm,QJ,Qj,Qi,Qq,QC,bd,look,aput,Qm,Qh,ty,↓reduceIte,Nat.reduceEqDiff,Nat.reduceAdd,Nat.reduceSub,Nat.reduceMul,Int.reduceLT,Int.reduceLE,Int.reduceNeg,Int.reduceToNat,reduceCtorEq,Nat.reduceBEq,Nat.reduceBNe,Qk,Qe,Value.cells,am,mm,keep, f_, fo_, aint, hac, hnn, hbb, hii, Bool.not_true, Bool.not_false, zA, hzl, ll2, lt2, lo2, lq2]
        refine ACalls.mono (get_calls gr rv ev (rawOf false (An.zero)) T1 J2'.hr J2'.o1.sl (rawOf_length J9.w)) ?_
        rintro _ T3 ⟨rfl, m3⟩
        rw [hG.1, hG.2]
        replace N_ := N_.grow m3
        clear fo_; have fo_ := f_; clear f_
        have f_ := N_.has
        simp only [Has] at f_
        simp only [show (if false = true then (0 : Int) else 6) = 6 from rfl]
        try simp -implicitDefEqProofs (maxSteps := 1000000) (disch := (try simp only [sl]); try omega) only [sm,QJ,Qj,Qi,Qq,QC,bd,look,aput,Qm,Qh,ty,↓reduceIte,Nat.reduceEqDiff,Nat.reduceAdd,Nat.reduceSub,Nat.reduceMul,Int.reduceLT,Int.reduceLE,Int.reduceNeg,Int.reduceToNat,reduceCtorEq,Nat.reduceBEq,Nat.reduceBNe,Qk,Qe,Value.cells,am,mm,keep, f_, fo_, aint, hac, hnn, hbb, hii, Bool.not_true, Bool.not_false, zA, hzl, ll2, lt2, lo2, lq2]
        try (refine hK_ _ _ ?_; clear hK_ K_; repeat first | refine QL ?_ | refine QM ?_)
        first | refine AWp.snap8 N_ ?_ | refine AWp.snap7 N_ ?_ | refine AWp.snap6 N_ ?_ | refine AWp.snap5 N_ ?_ | refine AWp.snap4 N_ ?_ | refine AWp.snap3 N_ ?_ | refine AWp.snap2 N_ ?_ | refine AWp.snap1 N_ ?_
        clear fo_; have fo_ := f_; clear f_ N_; intro T4 xT4 lT4 N_
        have f_ := N_.has
        simp only [Has] at f_
        have J4' := (J2'.mono m3).mono xT4
        have hl4 := J4'.hl
        have cl4 := AH.cells_own hl4
        have lw4 := alen_sl (P := Tryd.prog) (T := 96) (by simp only [ty]) J4'.o5.sl
        rw [List.length_map] at lw4
        have b00 : ((0 : Int) == 0) = true := rfl
        have b60 : ((6 : Int) == 0) = false := rfl
        (repeat first | refine Qo ?_ | refine Qn ?_); refine QK (by kernel_rfl) ?_; intro K_ hK_; simp -implicitDefEqProofs (maxSteps := 1000000) (disch := (try simp only [sl]); try omega) only [sm,QJ,Qj,Qi,Qq,QC,Qz,bd,QF,look,aput,Qm,QI,abin,anil,QG,QA,ty,↓reduceIte,Nat.reduceEqDiff,Nat.reduceAdd,Nat.reduceSub,Nat.reduceMul,Int.reduceLT,Int.reduceLE,Int.reduceNeg,Int.reduceToNat,reduceCtorEq,Nat.reduceBEq,Nat.reduceBNe,Qk,Qe,Value.cells,am,mm,keep, f_, fo_, aint, hac, hnn, hbb, hii, Bool.not_true, Bool.not_false, zA, hzl, ll2, lt2, lo2, lq2, hl4, cl4, b00, b60]
        refine ACalls.mono (count_calls gr rv ev (eps) T4 J4'.hr J4'.o2.sl (by (try simp only [List.length_append, List.length_singleton]); omega)) ?_
        rintro _ T5 ⟨rfl, m5⟩
        replace N_ := N_.grow m5
        clear fo_; have fo_ := f_; clear f_
        have f_ := N_.has
        simp only [Has] at f_
        try simp -implicitDefEqProofs (maxSteps := 1000000) (disch := (try simp only [sl]); try omega) only [sm,QJ,Qj,Qi,Qq,QC,Qz,bd,QF,look,aput,Qm,QI,abin,anil,QG,QA,ty,↓reduceIte,Nat.reduceEqDiff,Nat.reduceAdd,Nat.reduceSub,Nat.reduceMul,Int.reduceLT,Int.reduceLE,Int.reduceNeg,Int.reduceToNat,reduceCtorEq,Nat.reduceBEq,Nat.reduceBNe,Qk,Qe,Value.cells,am,mm,keep, f_, fo_, aint, hac, hnn, hbb, hii, Bool.not_true, Bool.not_false, zA, hzl, ll2, lt2, lo2, lq2, lw4]
        try (refine hK_ _ _ ?_; clear hK_ K_; repeat first | refine QL ?_ | refine QM ?_)
        repeat first | refine Qo ?_ | refine Qn ?_
        refine awp_if false rfl (by simp only [aeval_tmp, look, ↓reduceIte, Nat.reduceEqDiff]; try rfl) (fun h => absurd h (by decide)) (fun _ => ?_)
        have hii2 : IntKind.i64.wrap ((i : Int) + 1) = (i : Int) + 1 := wi64 _ (by omega) (by omega)
        iterate 2 ((repeat first | refine Qo ?_ | refine Qn ?_); (first | (refine QK (by kernel_rfl) ?_; intro K_ hK_; simp -implicitDefEqProofs (maxSteps := 1000000) (disch := (try simp only [sl]); try omega) only [sm,QJ,Qj,Qi,Qq,QC,bd,look,aput,QI,abin,anil,ty,↓reduceIte,Nat.reduceEqDiff,Nat.reduceAdd,Nat.reduceSub,Nat.reduceMul,Int.reduceLT,Int.reduceLE,Int.reduceNeg,Int.reduceToNat,reduceCtorEq,Nat.reduceBEq,Nat.reduceBNe,Qk,Qe,Value.cells,am,mm,keep, f_, fo_, aint, hac, hnn, hbb, hii, Bool.not_true, Bool.not_false, zA, hzl, ll2, lt2, lo2, lq2, hii2]; refine hK_ _ _ ?_; clear hK_ K_; repeat first | refine QL ?_ | refine QM ?_) | (refine awp_skip ?_; repeat first | refine QL ?_ | refine QM ?_)))
        refine ⟨(i + 1, eps, An.zero, false, rv, ev, zv, zev, wv, T5), ⟨by simp only []; omega, by (try simp only [List.length_append, List.length_singleton]); omega, J4'.mono m5, by have := got_lt (J4'.mono m5).hl; exact this⟩, (by repeat first | exact Forgets.nil | refine Forgets.cons (by first | (simp only [look, ↓reduceIte, Nat.reduceEqDiff]; done) | (simp only [look, ↓reduceIte, Nat.reduceEqDiff]; rfl) | simp [look, hii2]) ?_), ?_⟩
        first | omega | exact ⟨rfl, by omega⟩ | exact ⟨rfl, by simp only []; omega⟩ | (simp only []; omega)

  · -- extras
    iterate 1 ((repeat first | refine Qo ?_ | refine Qn ?_); (first | (refine QK (by kernel_rfl) ?_; intro K_ hK_; simp -implicitDefEqProofs (maxSteps := 1000000) (disch := (try simp only [sl]); try omega) only [sm,QJ,Qj,Qi,Qq,QC,bd,look,aput,QI,abin,anil,ty,↓reduceIte,Nat.reduceEqDiff,Nat.reduceAdd,Nat.reduceSub,Nat.reduceMul,Int.reduceLT,Int.reduceLE,Int.reduceNeg,Int.reduceToNat,reduceCtorEq,Nat.reduceBEq,Nat.reduceBNe,Qk,Qe,Value.cells,am,mm,keep, f_, fo_, aint, lv, hac, hnn, hbb, hii, hlt, hlt]; refine hK_ _ _ ?_; clear hK_ K_; repeat first | refine QL ?_ | refine QM ?_)))
    repeat first | refine Qo ?_ | refine Qn ?_
    refine awp_if false rfl (by simp only [aeval_tmp, look, ↓reduceIte, Nat.reduceEqDiff]; try rfl) (fun h => absurd h (by decide)) (fun _ => ?_)
    iterate 1 ((repeat first | refine Qo ?_ | refine Qn ?_); (first | (refine QK (by kernel_rfl) ?_; intro K_ hK_; simp -implicitDefEqProofs (maxSteps := 1000000) (disch := (try simp only [sl]); try omega) only [sm,QJ,Qj,Qi,Qq,QC,bd,look,aput,Qm,ty,↓reduceIte,Nat.reduceEqDiff,Nat.reduceAdd,Nat.reduceSub,Nat.reduceMul,Int.reduceLT,Int.reduceLE,Int.reduceNeg,Int.reduceToNat,reduceCtorEq,Nat.reduceBEq,Nat.reduceBNe,Qk,Qe,Value.cells,am,mm,keep, f_, fo_, aint, lv, hac, hnn, hbb, hii, hlt]; refine hK_ _ _ ?_; clear hK_ K_; repeat first | refine QL ?_ | refine QM ?_) | (refine awp_exit ?_; (repeat first | refine aThen_exit ?_ | refine aIn_out rfl ?_); refine aIn_here ?_; repeat first | refine QL ?_ | refine QM ?_)))
    (repeat first | refine Qo ?_ | refine Qn ?_); refine QK (by kernel_rfl) ?_; intro K_ hK_; simp -implicitDefEqProofs (maxSteps := 1000000) (disch := (try simp only [sl]); try omega) only [sm,QJ,Qj,Qi,Qq,QC,bd,look,aput,Qm,ty,↓reduceIte,Nat.reduceEqDiff,Nat.reduceAdd,Nat.reduceSub,Nat.reduceMul,Int.reduceLT,Int.reduceLE,Int.reduceNeg,Int.reduceToNat,reduceCtorEq,Nat.reduceBEq,Nat.reduceBNe,Qk,Qe,Value.cells,am,mm,keep, f_, fo_, aint, lv, hac, hnn, hbb, hii, hlt]
    refine ACalls.mono (epochs_calls gr rv ev eps K0 J.hr J.o2.sl (by omega)) ?_
    rintro u K1 ⟨u1, k1⟩
    replace N_ := N_.grow k1
    clear fo_; have fo_ := f_; clear f_
    have f_ := N_.has
    simp only [Has] at f_
    have lu := alen_sl (P := Tryd.prog) (T := 96) (by simp only [ty]) u1.sl
    rw [List.length_map] at lu
    have lw := alen_sl (P := Tryd.prog) (T := 96) (by simp only [ty]) J.o5.sl
    rw [List.length_map] at lw
    have o51 := J.o5.mono k1
    try simp -implicitDefEqProofs (maxSteps := 1000000) (disch := (try simp only [sl]); try omega) only [sm,QJ,Qj,Qi,Qq,QC,bd,look,aput,Qm,ty,↓reduceIte,Nat.reduceEqDiff,Nat.reduceAdd,Nat.reduceSub,Nat.reduceMul,Int.reduceLT,Int.reduceLE,Int.reduceNeg,Int.reduceToNat,reduceCtorEq,Nat.reduceBEq,Nat.reduceBNe,Qk,Qe,Value.cells,am,mm,keep, f_, fo_, aint, lv, hac, hnn, hbb, hii, lu, lw]
    try (refine hK_ _ _ ?_; clear hK_ K_; repeat first | refine QL ?_ | refine QM ?_)
    iterate 1 ((repeat first | refine Qo ?_ | refine Qn ?_); (first | (refine QK (by kernel_rfl) ?_; intro K_ hK_; simp -implicitDefEqProofs (maxSteps := 1000000) (disch := (try simp only [sl]); try omega) only [sm,QJ,Qj,Qi,Qq,QC,bd,look,aput,QI,abin,anil,ty,↓reduceIte,Nat.reduceEqDiff,Nat.reduceAdd,Nat.reduceSub,Nat.reduceMul,Int.reduceLT,Int.reduceLE,Int.reduceNeg,Int.reduceToNat,reduceCtorEq,Nat.reduceBEq,Nat.reduceBNe,Qk,Qe,Value.cells,am,mm,keep, f_, fo_, aint, lv, hac, hnn, hbb, hii, lu, lw]; refine hK_ _ _ ?_; clear hK_ K_; repeat first | refine QL ?_ | refine QM ?_)))
    repeat first | refine Qo ?_ | refine Qn ?_
    refine awp_if false rfl (by simp only [aeval_tmp, look, ↓reduceIte, Nat.reduceEqDiff]; try rfl) (fun h => absurd h (by decide)) (fun _ => ?_)
    iterate 2 ((repeat first | refine Qo ?_ | refine Qn ?_); (first | (refine QK (by kernel_rfl) ?_; intro K_ hK_; simp -implicitDefEqProofs (maxSteps := 1000000) (disch := (try simp only [sl]); try omega) only [sm,QJ,Qj,Qi,Qq,QC,bd,look,aput,ty,↓reduceIte,Nat.reduceEqDiff,Nat.reduceAdd,Nat.reduceSub,Nat.reduceMul,Int.reduceLT,Int.reduceLE,Int.reduceNeg,Int.reduceToNat,reduceCtorEq,Nat.reduceBEq,Nat.reduceBNe,Qk,Qe,Value.cells,am,mm,keep, f_, fo_, aint, lv, hac, hnn, hbb, hii, lu, lw]; refine hK_ _ _ ?_; clear hK_ K_; repeat first | refine QL ?_ | refine QM ?_) | (refine awp_skip ?_; repeat first | refine QL ?_ | refine QM ?_)))
    repeat first | refine Qo ?_ | refine Qn ?_
    refine awp_forK [6, 7, 8, 18, 151] (fun k : Nat => [(152, I64 k)]) (fun k : Nat => K1) (fun k : Nat => k ≤ eps.length) (fun k : Nat => eps.length - k) (0) (Nat.zero_le _) (by repeat first | exact Forgets.nil | refine Forgets.cons (by first | (simp only [look, ↓reduceIte, Nat.reduceEqDiff]; done) | (simp only [look, ↓reduceIte, Nat.reduceEqDiff]; rfl) | simp [look, hii2]) ?_) rfl ?_
    intro k hk
    by_cases hk2 : k < eps.length
    · obtain ⟨gu, rfl, hgu, -, hlu⟩ := u1.at (by rw [List.length_map]; omega)
      obtain ⟨gw, rfl, hgw, -, hlw⟩ := o51.at (by rw [List.length_map]; omega)
      have cu := AH.cells_own hgu
      have cw := AH.cells_own hgw
      have mk := mg32 eps k hk2
      have lm : (eps.map U32).length = eps.length := List.length_map _
      have hkk : IntKind.i64.wrap ((k : Int) + 1) = (k : Int) + 1 := wi64 _ (by omega) (by omega)
      iterate 1 ((repeat first | refine Qo ?_ | refine Qn ?_); (first | (refine QK (by kernel_rfl) ?_; intro K_ hK_; simp -implicitDefEqProofs (maxSteps := 1000000) (disch := (try simp only [sl]); try omega) only [sm,QJ,Qj,Qi,Qq,QC,bd,look,aput,QI,abin,anil,ty,↓reduceIte,Nat.reduceEqDiff,Nat.reduceAdd,Nat.reduceSub,Nat.reduceMul,Int.reduceLT,Int.reduceLE,Int.reduceNeg,Int.reduceToNat,reduceCtorEq,Nat.reduceBEq,Nat.reduceBNe,Qk,Qe,Value.cells,am,mm,keep, f_, fo_, aint, lv, hac, hnn, hbb, hii, lu, lw, hk2]; refine hK_ _ _ ?_; clear hK_ K_; repeat first | refine QL ?_ | refine QM ?_)))
      repeat first | refine Qo ?_ | refine Qn ?_
      refine awp_if true rfl (by simp only [aeval_tmp, look, ↓reduceIte, Nat.reduceEqDiff]; try rfl) (fun _ => ?_) (fun h => absurd h (by decide))
      iterate 3 ((repeat first | refine Qo ?_ | refine Qn ?_); (first | ((first | refine QK (by kernel_rfl) ?_ | refine awp_region_drawK (id := 36) [(0, []), (1, []), (2, []), (3, []), (4, []), (5, []), (6, []), (7, []), (8, [])] mixed (by kernel_rfl) ?_); intro K_ hK_; simp -implicitDefEqProofs (maxSteps := 1000000) (disch := (try simp only [sl]); try omega) only [sm,QJ,aSel,Qu,Qv,Qw,Qx,Qy,Qj,Qi,Qq,QC,Qz,bd,QF,look,aput,QI,abin,anil,Qb,QA,ty,↓reduceIte,Nat.reduceEqDiff,Nat.reduceAdd,Nat.reduceSub,Nat.reduceMul,Int.reduceLT,Int.reduceLE,Int.reduceNeg,Int.reduceToNat,reduceCtorEq,Nat.reduceBEq,Nat.reduceBNe,Qk,Qe,Value.cells,am,mm,keep, f_, fo_, aint, lv, hac, hnn, hbb, hii, lu, lw, hk2, cu, cw, mk, lm]; refine hK_ _ _ ?_; clear hK_ K_; repeat first | refine QL ?_ | refine QM ?_) | (refine awp_skip ?_; repeat first | refine QL ?_ | refine QM ?_)))
      repeat first | refine Qo ?_ | refine Qn ?_
      refine awp_if false rfl (by simp only [aeval_tmp, look, ↓reduceIte, Nat.reduceEqDiff]; try rfl) (fun h => absurd h (by decide)) (fun _ => ?_)
      iterate 2 ((repeat first | refine Qo ?_ | refine Qn ?_); (first | (refine QK (by kernel_rfl) ?_; intro K_ hK_; simp -implicitDefEqProofs (maxSteps := 1000000) (disch := (try simp only [sl]); try omega) only [sm,QJ,Qj,Qi,Qq,QC,bd,look,aput,QI,abin,anil,ty,↓reduceIte,Nat.reduceEqDiff,Nat.reduceAdd,Nat.reduceSub,Nat.reduceMul,Int.reduceLT,Int.reduceLE,Int.reduceNeg,Int.reduceToNat,reduceCtorEq,Nat.reduceBEq,Nat.reduceBNe,Qk,Qe,Value.cells,am,mm,keep, f_, fo_, aint, lv, hac, hnn, hbb, hii, lu, lw, hkk]; refine hK_ _ _ ?_; clear hK_ K_; repeat first | refine QL ?_ | refine QM ?_) | (refine awp_skip ?_; repeat first | refine QL ?_ | refine QM ?_)))
      refine ⟨k + 1, by omega, (by repeat first | exact Forgets.nil | refine Forgets.cons (by first | (simp only [look, ↓reduceIte, Nat.reduceEqDiff]; done) | (simp only [look, ↓reduceIte, Nat.reduceEqDiff]; rfl) | simp [look, hkk]) ?_), ?_⟩
      first | omega | exact ⟨rfl, by omega⟩ | exact ⟨rfl, by simp only []; omega⟩ | (simp only []; omega)
    obtain rfl : k = eps.length := by omega
    iterate 1 ((repeat first | refine Qo ?_ | refine Qn ?_); (first | (refine QK (by kernel_rfl) ?_; intro K_ hK_; simp -implicitDefEqProofs (maxSteps := 1000000) (disch := (try simp only [sl]); try omega) only [sm,QJ,Qj,Qi,Qq,QC,bd,look,aput,QI,abin,anil,ty,↓reduceIte,Nat.reduceEqDiff,Nat.reduceAdd,Nat.reduceSub,Nat.reduceMul,Int.reduceLT,Int.reduceLE,Int.reduceNeg,Int.reduceToNat,reduceCtorEq,Nat.reduceBEq,Nat.reduceBNe,Qk,Qe,Value.cells,am,mm,keep, f_, fo_, aint, lv, hac, hnn, hbb, hii, lu, lw, hk2]; refine hK_ _ _ ?_; clear hK_ K_; repeat first | refine QL ?_ | refine QM ?_)))
    repeat first | refine Qo ?_ | refine Qn ?_
    refine awp_if false rfl (by simp only [aeval_tmp, look, ↓reduceIte, Nat.reduceEqDiff]; try rfl) (fun h => absurd h (by decide)) (fun _ => ?_)
    have J1 := J.mono k1
    have hrl := rawOf_length (th := th) J.w
    iterate 1 ((repeat first | refine Qo ?_ | refine Qn ?_); (first | (refine QK (by kernel_rfl) ?_; intro K_ hK_; simp -implicitDefEqProofs (maxSteps := 1000000) (disch := (try simp only [sl]); try omega) only [sm,QJ,Qj,Qi,Qq,QC,bd,look,aput,Qm,ty,↓reduceIte,Nat.reduceEqDiff,Nat.reduceAdd,Nat.reduceSub,Nat.reduceMul,Int.reduceLT,Int.reduceLE,Int.reduceNeg,Int.reduceToNat,reduceCtorEq,Nat.reduceBEq,Nat.reduceBNe,Qk,Qe,Value.cells,am,mm,keep, f_, fo_, aint, lv, hac, hnn, hbb, hii, lu, lw]; refine hK_ _ _ ?_; clear hK_ K_; repeat first | refine QL ?_ | refine QM ?_) | (refine awp_exit ?_; (repeat first | refine aThen_exit ?_ | refine aIn_out rfl ?_); refine aIn_here ?_; repeat first | refine QL ?_ | refine QM ?_)))
    (repeat first | refine Qo ?_ | refine Qn ?_); refine QK (by kernel_rfl) ?_; intro K_ hK_; simp -implicitDefEqProofs (maxSteps := 1000000) (disch := (try simp only [sl]); try omega) only [sm,QJ,Qj,Qi,Qq,QC,bd,look,aput,Qm,ty,↓reduceIte,Nat.reduceEqDiff,Nat.reduceAdd,Nat.reduceSub,Nat.reduceMul,Int.reduceLT,Int.reduceLE,Int.reduceNeg,Int.reduceToNat,reduceCtorEq,Nat.reduceBEq,Nat.reduceBNe,Qk,Qe,Value.cells,am,mm,keep, f_, fo_, aint, lv, hac, hnn, hbb, hii, lu, lw]
    refine ACalls.mono (raw_calls gr rv ev (rawOf th last) K1 J1.hr J1.o1.sl hrl) ?_
    rintro ra K2 ⟨p2, k2⟩
    replace N_ := N_.grow k2
    clear fo_; have fo_ := f_; clear f_
    have f_ := N_.has
    simp only [Has] at f_
    have J2 := J1.mono k2
    try simp -implicitDefEqProofs (maxSteps := 1000000) (disch := (try simp only [sl]); try omega) only [sm,QJ,Qj,Qi,Qq,QC,bd,look,aput,Qm,ty,↓reduceIte,Nat.reduceEqDiff,Nat.reduceAdd,Nat.reduceSub,Nat.reduceMul,Int.reduceLT,Int.reduceLE,Int.reduceNeg,Int.reduceToNat,reduceCtorEq,Nat.reduceBEq,Nat.reduceBNe,Qk,Qe,Value.cells,am,mm,keep, f_, fo_, aint, lv, hac, hnn, hbb, hii, lu, lw]
    try (refine hK_ _ _ ?_; clear hK_ K_; repeat first | refine QL ?_ | refine QM ?_)
    refine ACalls.mono (raw_calls gz zv zev (rawOf th last) K2 J2.hz J2.o3.sl hrl) ?_
    rintro rb K3 ⟨p3, k3⟩
    replace N_ := N_.grow k3
    clear fo_; have fo_ := f_; clear f_
    have f_ := N_.has
    simp only [Has] at f_
    try simp -implicitDefEqProofs (maxSteps := 1000000) (disch := (try simp only [sl]); try omega) only [sm,QJ,Qj,Qi,Qq,QC,bd,look,aput,Qm,ty,↓reduceIte,Nat.reduceEqDiff,Nat.reduceAdd,Nat.reduceSub,Nat.reduceMul,Int.reduceLT,Int.reduceLE,Int.reduceNeg,Int.reduceToNat,reduceCtorEq,Nat.reduceBEq,Nat.reduceBNe,Qk,Qe,Value.cells,am,mm,keep, f_, fo_, aint, lv, hac, hnn, hbb, hii, lu, lw]
    try (refine hK_ _ _ ?_; clear hK_ K_; repeat first | refine QL ?_ | refine QM ?_)
    refine ACalls.mono (same_calls ra rb (rawOf th last) (rawOf th last) K3 (p2.sl.mono k3) p3.sl (by omega)) ?_
    rintro _ _ ⟨rfl, hHH⟩
    rw [hHH]
    clear hHH
    simp -implicitDefEqProofs (maxSteps := 1000000) (disch := (try simp only [sl]); try omega) only [sm,QJ,Qj,Qi,Qq,QC,bd,look,aput,Qm,ty,↓reduceIte,Nat.reduceEqDiff,Nat.reduceAdd,Nat.reduceSub,Nat.reduceMul,Int.reduceLT,Int.reduceLE,Int.reduceNeg,Int.reduceToNat,reduceCtorEq,Nat.reduceBEq,Nat.reduceBNe,Qk,Qe,Value.cells,am,mm,keep, f_, fo_, aint, lv, hac, hnn, hbb, hii, lu, lw]
    try (refine hK_ _ _ ?_; clear hK_ K_; repeat first | refine QL ?_ | refine QM ?_)
    try simp -implicitDefEqProofs (maxSteps := 1000000) (disch := (try simp only [sl]); try omega) only [sm,QJ,Qj,Qi,Qq,QC,bd,look,aput,Qm,ty,↓reduceIte,Nat.reduceEqDiff,Nat.reduceAdd,Nat.reduceSub,Nat.reduceMul,Int.reduceLT,Int.reduceLE,Int.reduceNeg,Int.reduceToNat,reduceCtorEq,Nat.reduceBEq,Nat.reduceBNe,Qk,Qe,Value.cells,am,mm,keep, f_, fo_, aint, lv, hac, hnn, hbb, hii, lu, lw, decide_true]
    try (refine hK_ _ _ ?_; clear hK_ K_; repeat first | refine QL ?_ | refine QM ?_)
    refine ACalls.mono (aalive_calls K3) ?_
    rintro _ K4 ⟨rfl, k4⟩
    try simp -implicitDefEqProofs (maxSteps := 1000000) (disch := (try simp only [sl]); try omega) only [sm,QJ,Qj,Qi,Qq,QC,bd,look,aput,Qm,ty,↓reduceIte,Nat.reduceEqDiff,Nat.reduceAdd,Nat.reduceSub,Nat.reduceMul,Int.reduceLT,Int.reduceLE,Int.reduceNeg,Int.reduceToNat,reduceCtorEq,Nat.reduceBEq,Nat.reduceBNe,Qk,Qe,Value.cells,am,mm,keep, f_, fo_, aint, lv, hac, hnn, hbb, hii, lu, lw]
    try (refine hK_ _ _ ?_; clear hK_ K_; repeat first | refine QL ?_ | refine QM ?_)
    first | refine awp_ret ?_ | skip
    show ∃ v, aresults Tryd.prog Tryd.f14 _ _ = some v ∧ _
    rw [aresults_1 (r := .tmp 2) (by kernel_rfl)]
    simp -implicitDefEqProofs (disch := (try simp only [sl]); try omega) only [aresult, Option.some.injEq, exists_eq_left', sm,Qj,Qi,Qq,QC,Qz,bd,QF,look,aput,QB,Qf,QA,ty,↓reduceIte,Nat.reduceEqDiff,Nat.reduceAdd,Nat.reduceSub,Nat.reduceMul,Int.reduceLT,Int.reduceLE,Int.reduceNeg,Int.reduceToNat,reduceCtorEq,Nat.reduceBEq,Nat.reduceBNe,Qk,Qe,Value.cells,am,mm,keep, f_, fo_, aint, lv, hac, hnn, hbb, hii, lu, lw]
end Go.Proofs.YtfhbieimffjjkaaDoor
