/- The statement FailWraps: walked. -/
import Derived.Test.YtldfnfpinemedaaDoorFa7
namespace Go.Proofs.YtldfnfpinemedaaDoor
open Go Go.RowKit
--hide
set_option linter.unusedSimpArgs false
set_option linter.unusedVariables false
set_option maxRecDepth 4000
theorem whL_any : ∀ {ls : List Ly} (_ : ls ≠ []) (d d' : Ly), whL ls d = whL ls d'
  | [], h, _, _ => absurd rfl h
  | l :: t, _, d, d' => rfl
theorem Blt.chain {H : AH} {l : List Ly} {e : Int} {v : Value} (h : Blt H l e v) (hl : l ≠ []) (he : e ≠ 0) : ChL H l.reverse v (numZ e) := by
  rcases h with ⟨h1 | h1, _⟩ | ⟨_, _, h⟩
  · exact absurd h1 hl
  · exact absurd h1 he
  · exact h
theorem smallL_rev {l : List Ly} (h : smallL l) : smallL l.reverse := fun x hx => h x (List.mem_reverse.1 hx)
theorem alen_layers {H : AH} {v : Value} {l : List Ly} (h : SLn H v l.length (flL l)) : alen Tryd.prog 22 v = some (.int .i64 (l.length : Int)) := by
  obtain ⟨p, e, rfl⟩ := h.shape
  exact alen_sliceL _ _ _
set_option maxHeartbeats 16000000 in
theorem fwraps_law : ALawG Tryd.prog [0, 1] okG 6 [22, 3, 9] := by
  intro H vs os hok hfix hlen hv
  match vs, hlen with
  | [v0, v1, v2], _ =>
  obtain ⟨l, hl, hm⟩ := layers_arg (hv 0 _ v0 rfl rfl)
  obtain ⟨e, rfl, he⟩ := int_arg (hv 1 _ v1 rfl rfl)
  obtain ⟨op, rfl, hop⟩ := str_arg (hv 2 _ v2 rfl rfl)
  have hG := GB.of hok hfix
  clear hv hok hfix
  have lv := alen_layers hl
  have hii : ∀ n : Int, (n == n) = true := fun n => by simp
  have hss := str_same
  refine acalls_of_body Tryd.func6 rfl Tryd.ntmps6 (by simp) ?_
  simp only [argsT, Nat.reduceAdd]
  iterate 1 ((repeat first | refine Qo ?_ | refine Qn ?_); (first | (refine QK (by kernel_rfl) ?_; intro K_ hK_; simp -implicitDefEqProofs (disch := (try simp only [sl]); try omega) only [sm,QJ,Qj,Qi,Qq,QC,bd,look,aput,Qm,QI,abin,anil,ty,↓reduceIte,Nat.reduceEqDiff,Nat.reduceAdd,Nat.reduceSub,Nat.reduceMul,Int.reduceLT,Int.reduceLE,Int.reduceNeg,Int.reduceToNat,reduceCtorEq,Nat.reduceBEq,Nat.reduceBNe,Qk,Qe,Value.cells,am,mm,keep, aint, nil26, nil26', u26, u28, lv]; refine hK_ _ _ ?_; clear hK_ K_; repeat first | refine QL ?_ | refine QM ?_)))
  (repeat first | refine Qo ?_ | refine Qn ?_); refine QK (by kernel_rfl) ?_; intro K_ hK_; simp -implicitDefEqProofs (disch := (try simp only [sl]); try omega) only [sm,QJ,Qj,Qi,Qq,QC,bd,look,aput,Qm,QI,abin,anil,ty,↓reduceIte,Nat.reduceEqDiff,Nat.reduceAdd,Nat.reduceSub,Nat.reduceMul,Int.reduceLT,Int.reduceLE,Int.reduceNeg,Int.reduceToNat,reduceCtorEq,Nat.reduceBEq,Nat.reduceBNe,Qk,Qe,Value.cells,am,mm,keep, aint, nil26, nil26', u26, u28, lv]
  refine ACalls.mono (far_calls v0 l H hl hm) ?_
  rintro _ H1 ⟨⟨b, rfl, hb⟩, e1⟩
  cases b with
  | true =>
    try simp -implicitDefEqProofs (disch := (try simp only [sl]); try omega) only [sm,QJ,Qj,Qi,Qq,QC,bd,look,aput,Qm,QI,abin,anil,ty,↓reduceIte,Nat.reduceEqDiff,Nat.reduceAdd,Nat.reduceSub,Nat.reduceMul,Int.reduceLT,Int.reduceLE,Int.reduceNeg,Int.reduceToNat,reduceCtorEq,Nat.reduceBEq,Nat.reduceBNe,Qk,Qe,Value.cells,am,mm,keep, aint, nil26, nil26', u26, u28, lv]
    try (refine hK_ _ _ ?_; clear hK_ K_; repeat first | refine QL ?_ | refine QM ?_)
    repeat first | refine Qo ?_ | refine Qn ?_
    refine awp_if true rfl (by first | (simp only [aeval_tmp, look, ↓reduceIte, Nat.reduceEqDiff]; try rfl) | rfl) (fun _ => ?_) (fun h => absurd h (by decide))
    (repeat first | refine Qo ?_ | refine Qn ?_); refine QK (by kernel_rfl) ?_; intro K_ hK_; simp -implicitDefEqProofs (disch := (try simp only [sl]); try omega) only [sm,QJ,Qj,Qi,Qq,QC,bd,look,aput,Qm,ty,↓reduceIte,Nat.reduceEqDiff,Nat.reduceAdd,Nat.reduceSub,Nat.reduceMul,Int.reduceLT,Int.reduceLE,Int.reduceNeg,Int.reduceToNat,reduceCtorEq,Nat.reduceBEq,Nat.reduceBNe,Qk,Qe,Value.cells,am,mm,keep, aint, nil26, nil26', u26, u28, lv]
    refine ACalls.mono (falive_calls H1 (hG.mono e1)) ?_
    rintro _ H2 ⟨rfl, e2⟩
    try simp -implicitDefEqProofs (disch := (try simp only [sl]); try omega) only [sm,QJ,Qj,Qi,Qq,QC,bd,look,aput,Qm,ty,↓reduceIte,Nat.reduceEqDiff,Nat.reduceAdd,Nat.reduceSub,Nat.reduceMul,Int.reduceLT,Int.reduceLE,Int.reduceNeg,Int.reduceToNat,reduceCtorEq,Nat.reduceBEq,Nat.reduceBNe,Qk,Qe,Value.cells,am,mm,keep, aint, nil26, nil26', u26, u28, lv]
    try (refine hK_ _ _ ?_; clear hK_ K_; repeat first | refine QL ?_ | refine QM ?_)
    first | refine awp_ret ?_ | skip
    show ∃ v, aresults Tryd.prog Tryd.f6 _ _ = some v ∧ _
    rw [aresults_1 (r := .tmp 6) (by kernel_rfl)]
    simp -implicitDefEqProofs (disch := (try simp only [sl]); try omega) only [aresult, Option.some.injEq, exists_eq_left', sm,Qj,Qi,Qq,QC,Qz,bd,QF,look,aput,QB,Qf,QA,ty,↓reduceIte,Nat.reduceEqDiff,Nat.reduceAdd,Nat.reduceSub,Nat.reduceMul,Int.reduceLT,Int.reduceLE,Int.reduceNeg,Int.reduceToNat,reduceCtorEq,Nat.reduceBEq,Nat.reduceBNe,Qk,Qe,Value.cells,am,mm,keep, aint, nil26, nil26', u26, u28, lv]
  | false =>
  obtain ⟨h60, hsm⟩ := hb rfl
  by_cases hl0 : l.length = 0
  · have k0 : ((l.length : Int) == 0) = true := by rw [beq_iff_eq]; omega
    try simp -implicitDefEqProofs (disch := (try simp only [sl]); try omega) only [sm,QJ,Qj,Qi,Qq,QC,bd,look,aput,Qm,QI,abin,anil,ty,↓reduceIte,Nat.reduceEqDiff,Nat.reduceAdd,Nat.reduceSub,Nat.reduceMul,Int.reduceLT,Int.reduceLE,Int.reduceNeg,Int.reduceToNat,reduceCtorEq,Nat.reduceBEq,Nat.reduceBNe,Qk,Qe,Value.cells,am,mm,keep, aint, nil26, nil26', u26, u28, lv, k0]
    try (refine hK_ _ _ ?_; clear hK_ K_; repeat first | refine QL ?_ | refine QM ?_)
    repeat first | refine Qo ?_ | refine Qn ?_
    refine awp_if true rfl (by first | (simp only [aeval_tmp, look, ↓reduceIte, Nat.reduceEqDiff]; try rfl) | rfl) (fun _ => ?_) (fun h => absurd h (by decide))
    (repeat first | refine Qo ?_ | refine Qn ?_); refine QK (by kernel_rfl) ?_; intro K_ hK_; simp -implicitDefEqProofs (disch := (try simp only [sl]); try omega) only [sm,QJ,Qj,Qi,Qq,QC,bd,look,aput,Qm,ty,↓reduceIte,Nat.reduceEqDiff,Nat.reduceAdd,Nat.reduceSub,Nat.reduceMul,Int.reduceLT,Int.reduceLE,Int.reduceNeg,Int.reduceToNat,reduceCtorEq,Nat.reduceBEq,Nat.reduceBNe,Qk,Qe,Value.cells,am,mm,keep, aint, nil26, nil26', u26, u28, lv]
    refine ACalls.mono (falive_calls H1 (hG.mono e1)) ?_
    rintro _ H2 ⟨rfl, e2⟩
    try simp -implicitDefEqProofs (disch := (try simp only [sl]); try omega) only [sm,QJ,Qj,Qi,Qq,QC,bd,look,aput,Qm,ty,↓reduceIte,Nat.reduceEqDiff,Nat.reduceAdd,Nat.reduceSub,Nat.reduceMul,Int.reduceLT,Int.reduceLE,Int.reduceNeg,Int.reduceToNat,reduceCtorEq,Nat.reduceBEq,Nat.reduceBNe,Qk,Qe,Value.cells,am,mm,keep, aint, nil26, nil26', u26, u28, lv]
    try (refine hK_ _ _ ?_; clear hK_ K_; repeat first | refine QL ?_ | refine QM ?_)
    first | refine awp_ret ?_ | skip
    show ∃ v, aresults Tryd.prog Tryd.f6 _ _ = some v ∧ _
    rw [aresults_1 (r := .tmp 6) (by kernel_rfl)]
    simp -implicitDefEqProofs (disch := (try simp only [sl]); try omega) only [aresult, Option.some.injEq, exists_eq_left', sm,Qj,Qi,Qq,QC,Qz,bd,QF,look,aput,QB,Qf,QA,ty,↓reduceIte,Nat.reduceEqDiff,Nat.reduceAdd,Nat.reduceSub,Nat.reduceMul,Int.reduceLT,Int.reduceLE,Int.reduceNeg,Int.reduceToNat,reduceCtorEq,Nat.reduceBEq,Nat.reduceBNe,Qk,Qe,Value.cells,am,mm,keep, aint, nil26, nil26', u26, u28, lv]
  have k0 : ((l.length : Int) == 0) = false := by rw [beq_eq_false_iff_ne]; omega
  by_cases h200 : (op.size : Int) > 200
  · -- (cursor back)
    try simp -implicitDefEqProofs (disch := (try simp only [sl]); try omega) only [sm,QJ,Qj,Qi,Qq,QC,bd,look,aput,Qm,QI,abin,anil,ty,↓reduceIte,Nat.reduceEqDiff,Nat.reduceAdd,Nat.reduceSub,Nat.reduceMul,Int.reduceLT,Int.reduceLE,Int.reduceNeg,Int.reduceToNat,reduceCtorEq,Nat.reduceBEq,Nat.reduceBNe,Qk,Qe,Value.cells,am,mm,keep, aint, nil26, nil26', u26, u28, lv, k0, h200]
    try (refine hK_ _ _ ?_; clear hK_ K_; repeat first | refine QL ?_ | refine QM ?_)
    repeat first | refine Qo ?_ | refine Qn ?_
    refine awp_if true rfl (by first | (simp only [aeval_tmp, look, ↓reduceIte, Nat.reduceEqDiff]; try rfl) | rfl) (fun _ => ?_) (fun h => absurd h (by decide))
    (repeat first | refine Qo ?_ | refine Qn ?_); refine QK (by kernel_rfl) ?_; intro K_ hK_; simp -implicitDefEqProofs (disch := (try simp only [sl]); try omega) only [sm,QJ,Qj,Qi,Qq,QC,bd,look,aput,Qm,ty,↓reduceIte,Nat.reduceEqDiff,Nat.reduceAdd,Nat.reduceSub,Nat.reduceMul,Int.reduceLT,Int.reduceLE,Int.reduceNeg,Int.reduceToNat,reduceCtorEq,Nat.reduceBEq,Nat.reduceBNe,Qk,Qe,Value.cells,am,mm,keep, aint, nil26, nil26', u26, u28, lv]
    refine ACalls.mono (falive_calls H1 (hG.mono e1)) ?_
    rintro _ H2 ⟨rfl, e2⟩
    try simp -implicitDefEqProofs (disch := (try simp only [sl]); try omega) only [sm,QJ,Qj,Qi,Qq,QC,bd,look,aput,Qm,ty,↓reduceIte,Nat.reduceEqDiff,Nat.reduceAdd,Nat.reduceSub,Nat.reduceMul,Int.reduceLT,Int.reduceLE,Int.reduceNeg,Int.reduceToNat,reduceCtorEq,Nat.reduceBEq,Nat.reduceBNe,Qk,Qe,Value.cells,am,mm,keep, aint, nil26, nil26', u26, u28, lv]
    try (refine hK_ _ _ ?_; clear hK_ K_; repeat first | refine QL ?_ | refine QM ?_)
    first | refine awp_ret ?_ | skip
    show ∃ v, aresults Tryd.prog Tryd.f6 _ _ = some v ∧ _
    rw [aresults_1 (r := .tmp 6) (by kernel_rfl)]
    simp -implicitDefEqProofs (disch := (try simp only [sl]); try omega) only [aresult, Option.some.injEq, exists_eq_left', sm,Qj,Qi,Qq,QC,Qz,bd,QF,look,aput,QB,Qf,QA,ty,↓reduceIte,Nat.reduceEqDiff,Nat.reduceAdd,Nat.reduceSub,Nat.reduceMul,Int.reduceLT,Int.reduceLE,Int.reduceNeg,Int.reduceToNat,reduceCtorEq,Nat.reduceBEq,Nat.reduceBNe,Qk,Qe,Value.cells,am,mm,keep, aint, nil26, nil26', u26, u28, lv]
  by_cases he0 : e = 0
  · have k1 : (e == 0) = true := by rw [beq_iff_eq]; exact he0
    try simp -implicitDefEqProofs (disch := (try simp only [sl]); try omega) only [sm,QJ,Qj,Qi,Qq,QC,bd,look,aput,Qm,QI,abin,anil,ty,↓reduceIte,Nat.reduceEqDiff,Nat.reduceAdd,Nat.reduceSub,Nat.reduceMul,Int.reduceLT,Int.reduceLE,Int.reduceNeg,Int.reduceToNat,reduceCtorEq,Nat.reduceBEq,Nat.reduceBNe,Qk,Qe,Value.cells,am,mm,keep, aint, nil26, nil26', u26, u28, lv, k0, h200, k1]
    try (refine hK_ _ _ ?_; clear hK_ K_; repeat first | refine QL ?_ | refine QM ?_)
    repeat first | refine Qo ?_ | refine Qn ?_
    refine awp_if true rfl (by first | (simp only [aeval_tmp, look, ↓reduceIte, Nat.reduceEqDiff]; try rfl) | rfl) (fun _ => ?_) (fun h => absurd h (by decide))
    (repeat first | refine Qo ?_ | refine Qn ?_); refine QK (by kernel_rfl) ?_; intro K_ hK_; simp -implicitDefEqProofs (disch := (try simp only [sl]); try omega) only [sm,QJ,Qj,Qi,Qq,QC,bd,look,aput,Qm,ty,↓reduceIte,Nat.reduceEqDiff,Nat.reduceAdd,Nat.reduceSub,Nat.reduceMul,Int.reduceLT,Int.reduceLE,Int.reduceNeg,Int.reduceToNat,reduceCtorEq,Nat.reduceBEq,Nat.reduceBNe,Qk,Qe,Value.cells,am,mm,keep, aint, nil26, nil26', u26, u28, lv]
    refine ACalls.mono (falive_calls H1 (hG.mono e1)) ?_
    rintro _ H2 ⟨rfl, e2⟩
    try simp -implicitDefEqProofs (disch := (try simp only [sl]); try omega) only [sm,QJ,Qj,Qi,Qq,QC,bd,look,aput,Qm,ty,↓reduceIte,Nat.reduceEqDiff,Nat.reduceAdd,Nat.reduceSub,Nat.reduceMul,Int.reduceLT,Int.reduceLE,Int.reduceNeg,Int.reduceToNat,reduceCtorEq,Nat.reduceBEq,Nat.reduceBNe,Qk,Qe,Value.cells,am,mm,keep, aint, nil26, nil26', u26, u28, lv]
    try (refine hK_ _ _ ?_; clear hK_ K_; repeat first | refine QL ?_ | refine QM ?_)
    first | refine awp_ret ?_ | skip
    show ∃ v, aresults Tryd.prog Tryd.f6 _ _ = some v ∧ _
    rw [aresults_1 (r := .tmp 6) (by kernel_rfl)]
    simp -implicitDefEqProofs (disch := (try simp only [sl]); try omega) only [aresult, Option.some.injEq, exists_eq_left', sm,Qj,Qi,Qq,QC,Qz,bd,QF,look,aput,QB,Qf,QA,ty,↓reduceIte,Nat.reduceEqDiff,Nat.reduceAdd,Nat.reduceSub,Nat.reduceMul,Int.reduceLT,Int.reduceLE,Int.reduceNeg,Int.reduceToNat,reduceCtorEq,Nat.reduceBEq,Nat.reduceBNe,Qk,Qe,Value.cells,am,mm,keep, aint, nil26, nil26', u26, u28, lv]
  have k1 : (e == 0) = false := by rw [beq_eq_false_iff_ne]; exact he0
  by_cases hneg : e < 0
  · -- (cursor back)
    try simp -implicitDefEqProofs (disch := (try simp only [sl]); try omega) only [sm,QJ,Qj,Qi,Qq,QC,bd,look,aput,Qm,QI,abin,anil,ty,↓reduceIte,Nat.reduceEqDiff,Nat.reduceAdd,Nat.reduceSub,Nat.reduceMul,Int.reduceLT,Int.reduceLE,Int.reduceNeg,Int.reduceToNat,reduceCtorEq,Nat.reduceBEq,Nat.reduceBNe,Qk,Qe,Value.cells,am,mm,keep, aint, nil26, nil26', u26, u28, lv, k0, h200, k1, hneg]
    try (refine hK_ _ _ ?_; clear hK_ K_; repeat first | refine QL ?_ | refine QM ?_)
    repeat first | refine Qo ?_ | refine Qn ?_
    refine awp_if true rfl (by first | (simp only [aeval_tmp, look, ↓reduceIte, Nat.reduceEqDiff]; try rfl) | rfl) (fun _ => ?_) (fun h => absurd h (by decide))
    (repeat first | refine Qo ?_ | refine Qn ?_); refine QK (by kernel_rfl) ?_; intro K_ hK_; simp -implicitDefEqProofs (disch := (try simp only [sl]); try omega) only [sm,QJ,Qj,Qi,Qq,QC,bd,look,aput,Qm,ty,↓reduceIte,Nat.reduceEqDiff,Nat.reduceAdd,Nat.reduceSub,Nat.reduceMul,Int.reduceLT,Int.reduceLE,Int.reduceNeg,Int.reduceToNat,reduceCtorEq,Nat.reduceBEq,Nat.reduceBNe,Qk,Qe,Value.cells,am,mm,keep, aint, nil26, nil26', u26, u28, lv]
    refine ACalls.mono (falive_calls H1 (hG.mono e1)) ?_
    rintro _ H2 ⟨rfl, e2⟩
    try simp -implicitDefEqProofs (disch := (try simp only [sl]); try omega) only [sm,QJ,Qj,Qi,Qq,QC,bd,look,aput,Qm,ty,↓reduceIte,Nat.reduceEqDiff,Nat.reduceAdd,Nat.reduceSub,Nat.reduceMul,Int.reduceLT,Int.reduceLE,Int.reduceNeg,Int.reduceToNat,reduceCtorEq,Nat.reduceBEq,Nat.reduceBNe,Qk,Qe,Value.cells,am,mm,keep, aint, nil26, nil26', u26, u28, lv]
    try (refine hK_ _ _ ?_; clear hK_ K_; repeat first | refine QL ?_ | refine QM ?_)
    first | refine awp_ret ?_ | skip
    show ∃ v, aresults Tryd.prog Tryd.f6 _ _ = some v ∧ _
    rw [aresults_1 (r := .tmp 6) (by kernel_rfl)]
    simp -implicitDefEqProofs (disch := (try simp only [sl]); try omega) only [aresult, Option.some.injEq, exists_eq_left', sm,Qj,Qi,Qq,QC,Qz,bd,QF,look,aput,QB,Qf,QA,ty,↓reduceIte,Nat.reduceEqDiff,Nat.reduceAdd,Nat.reduceSub,Nat.reduceMul,Int.reduceLT,Int.reduceLE,Int.reduceNeg,Int.reduceToNat,reduceCtorEq,Nat.reduceBEq,Nat.reduceBNe,Qk,Qe,Value.cells,am,mm,keep, aint, nil26, nil26', u26, u28, lv]
  have hne : l ≠ [] := fun h => hl0 (by rw [h]; rfl)
  try simp -implicitDefEqProofs (disch := (try simp only [sl]); try omega) only [sm,QJ,Qj,Qi,Qq,QC,bd,look,aput,Qm,QI,abin,anil,ty,↓reduceIte,Nat.reduceEqDiff,Nat.reduceAdd,Nat.reduceSub,Nat.reduceMul,Int.reduceLT,Int.reduceLE,Int.reduceNeg,Int.reduceToNat,reduceCtorEq,Nat.reduceBEq,Nat.reduceBNe,Qk,Qe,Value.cells,am,mm,keep, aint, nil26, nil26', u26, u28, lv, k0, h200, k1, hneg]
  try (refine hK_ _ _ ?_; clear hK_ K_; repeat first | refine QL ?_ | refine QM ?_)
  repeat first | refine Qo ?_ | refine Qn ?_
  refine awp_if false rfl (by first | (simp only [aeval_tmp, look, ↓reduceIte, Nat.reduceEqDiff]; try rfl) | rfl) (fun h => absurd h (by decide)) (fun _ => ?_)
  iterate 1 ((repeat first | refine Qo ?_ | refine Qn ?_); (first | (refine QK (by kernel_rfl) ?_; intro K_ hK_; simp -implicitDefEqProofs (disch := (try simp only [sl]); try omega) only [sm,QJ,Qj,Qi,Qq,QC,bd,look,aput,Qm,ty,↓reduceIte,Nat.reduceEqDiff,Nat.reduceAdd,Nat.reduceSub,Nat.reduceMul,Int.reduceLT,Int.reduceLE,Int.reduceNeg,Int.reduceToNat,reduceCtorEq,Nat.reduceBEq,Nat.reduceBNe,Qk,Qe,Value.cells,am,mm,keep, aint, nil26, nil26', u26, u28, lv]; refine hK_ _ _ ?_; clear hK_ K_; repeat first | refine QL ?_ | refine QM ?_) | (refine awp_skip ?_; repeat first | refine QL ?_ | refine QM ?_)))
  (repeat first | refine Qo ?_ | refine Qn ?_); refine QK (by kernel_rfl) ?_; intro K_ hK_; simp -implicitDefEqProofs (disch := (try simp only [sl]); try omega) only [sm,QJ,Qj,Qi,Qq,QC,bd,look,aput,Qm,ty,↓reduceIte,Nat.reduceEqDiff,Nat.reduceAdd,Nat.reduceSub,Nat.reduceMul,Int.reduceLT,Int.reduceLE,Int.reduceNeg,Int.reduceToNat,reduceCtorEq,Nat.reduceBEq,Nat.reduceBNe,Qk,Qe,Value.cells,am,mm,keep, aint, nil26, nil26', u26, u28, lv]
  refine ACalls.mono (built_calls v0 l e H1 (hl.mono e1) (by omega)) ?_
  rintro w H2 ⟨hB, e2⟩
  have cv := hB.chain hne he0
  obtain ⟨t, x, rfl⟩ := cv.iface
  obtain ⟨rl, hrl⟩ : ∃ rl, rl = l.reverse := ⟨_, rfl⟩
  rw [← hrl] at cv
  have hrn : rl ≠ [] := by rw [hrl]; simpa using hne
  have hrs : smallL rl := by rw [hrl]; exact smallL_rev hsm
  have hrlen : rl.length ≤ 60 := by rw [hrl, List.length_reverse]; exact h60
  clear hrl hB
  try simp -implicitDefEqProofs (disch := (try simp only [sl]); try omega) only [sm,QJ,Qj,Qi,Qq,QC,bd,look,aput,Qm,ty,↓reduceIte,Nat.reduceEqDiff,Nat.reduceAdd,Nat.reduceSub,Nat.reduceMul,Int.reduceLT,Int.reduceLE,Int.reduceNeg,Int.reduceToNat,reduceCtorEq,Nat.reduceBEq,Nat.reduceBNe,Qk,Qe,Value.cells,am,mm,keep, aint, nil26, nil26', u26, u28, lv]
  try (refine hK_ _ _ ?_; clear hK_ K_; repeat first | refine QL ?_ | refine QM ?_)
  (repeat first | refine Qo ?_ | refine Qn ?_); refine QK (by kernel_rfl) ?_; intro K_ hK_; simp -implicitDefEqProofs (disch := (try simp only [sl]); try omega) only [sm,QJ,Qj,Qi,Qq,QC,bd,look,aput,Qm,ty,↓reduceIte,Nat.reduceEqDiff,Nat.reduceAdd,Nat.reduceSub,Nat.reduceMul,Int.reduceLT,Int.reduceLE,Int.reduceNeg,Int.reduceToNat,reduceCtorEq,Nat.reduceBEq,Nat.reduceBNe,Qk,Qe,Value.cells,am,mm,keep, aint, nil26, nil26', u26, u28, lv]
  refine ACalls.mono (around_calls op ⟨#[47]⟩ t x H2) ?_
  rintro _ H3 ⟨rfl, hH3⟩
  have x23 : Ext H2 H3 := by rw [hH3]; exact Ext.push _ _
  have q3 : H3[H2.length]? = some (.own [.string op, .string ⟨#[47]⟩, .iface t x]) := by rw [hH3]; exact gpush _ _
  clear hH3
  have cv3 := cv.mono x23
  have co : ChL H3 ((op, ⟨#[47]⟩) :: rl) (.iface 40 (.pointer (some ⟨H2.length, 0, none⟩))) (numZ e) := ⟨H2.length, _, rfl, q3, cv3⟩
  have hG3 := hG.mono (e1.trans (e2.trans x23))
  generalize H2.length = g at *
  try simp -implicitDefEqProofs (disch := (try simp only [sl]); try omega) only [sm,QJ,Qj,Qi,Qq,QC,bd,look,aput,Qm,ty,↓reduceIte,Nat.reduceEqDiff,Nat.reduceAdd,Nat.reduceSub,Nat.reduceMul,Int.reduceLT,Int.reduceLE,Int.reduceNeg,Int.reduceToNat,reduceCtorEq,Nat.reduceBEq,Nat.reduceBNe,Qk,Qe,Value.cells,am,mm,keep, aint, nil26, nil26', u26, u28, lv]
  try (refine hK_ _ _ ?_; clear hK_ K_; repeat first | refine QL ?_ | refine QM ?_)
  iterate 1 ((repeat first | refine Qo ?_ | refine Qn ?_); (first | (refine QK (by kernel_rfl) ?_; intro K_ hK_; simp -implicitDefEqProofs (disch := (try simp only [sl]); try omega) only [sm,QJ,Qj,Qi,Qq,QC,bd,look,aput,QI,abin,anil,ty,↓reduceIte,Nat.reduceEqDiff,Nat.reduceAdd,Nat.reduceSub,Nat.reduceMul,Int.reduceLT,Int.reduceLE,Int.reduceNeg,Int.reduceToNat,reduceCtorEq,Nat.reduceBEq,Nat.reduceBNe,Qk,Qe,Value.cells,am,mm,keep, aint, nil26, nil26', u26, u28, lv]; refine hK_ _ _ ?_; clear hK_ K_; repeat first | refine QL ?_ | refine QM ?_)))
  repeat first | refine Qo ?_ | refine Qn ?_
  refine awp_if false rfl (by first | (simp only [aeval_tmp, look, ↓reduceIte, Nat.reduceEqDiff]; try rfl) | rfl) (fun h => absurd h (by decide)) (fun _ => ?_)
  iterate 1 ((repeat first | refine Qo ?_ | refine Qn ?_); (first | (refine QK (by kernel_rfl) ?_; intro K_ hK_; simp -implicitDefEqProofs (disch := (try simp only [sl]); try omega) only [sm,QJ,Qj,Qi,Qq,QC,bd,look,aput,Qm,Qh,ty,↓reduceIte,Nat.reduceEqDiff,Nat.reduceAdd,Nat.reduceSub,Nat.reduceMul,Int.reduceLT,Int.reduceLE,Int.reduceNeg,Int.reduceToNat,reduceCtorEq,Nat.reduceBEq,Nat.reduceBNe,Qk,Qe,Value.cells,am,mm,keep, aint, nil26, nil26', u26, u28, lv]; refine hK_ _ _ ?_; clear hK_ K_; repeat first | refine QL ?_ | refine QM ?_) | (refine awp_skip ?_; repeat first | refine QL ?_ | refine QM ?_)))
  (repeat first | refine Qo ?_ | refine Qn ?_); refine QK (by kernel_rfl) ?_; intro K_ hK_; simp -implicitDefEqProofs (disch := (try simp only [sl]); try omega) only [sm,QJ,Qj,Qi,Qq,QC,bd,look,aput,Qm,Qh,ty,↓reduceIte,Nat.reduceEqDiff,Nat.reduceAdd,Nat.reduceSub,Nat.reduceMul,Int.reduceLT,Int.reduceLE,Int.reduceNeg,Int.reduceToNat,reduceCtorEq,Nat.reduceBEq,Nat.reduceBNe,Qk,Qe,Value.cells,am,mm,keep, aint, nil26, nil26', u26, u28, lv]
  have hz : endZ (numZ e) := .inl ⟨e, rfl⟩
  refine ACalls.mono (where_calls rl _ _ H3 hG3 hz cv3 (by omega)) ?_
  rintro _ H4 ⟨rfl, e4⟩
  try simp -implicitDefEqProofs (disch := (try simp only [sl]); try omega) only [sm,QJ,Qj,Qi,Qq,QC,bd,look,aput,Qm,Qh,ty,↓reduceIte,Nat.reduceEqDiff,Nat.reduceAdd,Nat.reduceSub,Nat.reduceMul,Int.reduceLT,Int.reduceLE,Int.reduceNeg,Int.reduceToNat,reduceCtorEq,Nat.reduceBEq,Nat.reduceBNe,Qk,Qe,Value.cells,am,mm,keep, aint, nil26, nil26', u26, u28, lv]
  try (refine hK_ _ _ ?_; clear hK_ K_; repeat first | refine QL ?_ | refine QM ?_)
  (repeat first | refine Qo ?_ | refine Qn ?_); refine QK (by kernel_rfl) ?_; intro K_ hK_; simp -implicitDefEqProofs (disch := (try simp only [sl]); try omega) only [sm,QJ,Qj,Qi,Qq,QC,bd,look,aput,Qm,Qh,ty,↓reduceIte,Nat.reduceEqDiff,Nat.reduceAdd,Nat.reduceSub,Nat.reduceMul,Int.reduceLT,Int.reduceLE,Int.reduceNeg,Int.reduceToNat,reduceCtorEq,Nat.reduceBEq,Nat.reduceBNe,Qk,Qe,Value.cells,am,mm,keep, aint, nil26, nil26', u26, u28, lv]
  refine ACalls.mono (where_calls ((op, ⟨#[47]⟩) :: rl) _ _ H4 (hG3.mono e4) hz (co.mono e4) (by rw [List.length_cons]; omega)) ?_
  rintro _ H5 ⟨rfl, e5⟩
  have hwe : whL ((op, ⟨#[47]⟩) :: rl) (⟨#[]⟩, ⟨#[]⟩) = whL rl (⟨#[]⟩, ⟨#[]⟩) := whL_any hrn _ _
  rw [hwe]
  generalize whL rl (⟨#[]⟩, ⟨#[]⟩) = wh at *
  have x35 : Ext H3 H5 := e4.trans e5
  try simp -implicitDefEqProofs (disch := (try simp only [sl]); try omega) only [sm,QJ,Qj,Qi,Qq,QC,bd,look,aput,Qm,Qh,ty,↓reduceIte,Nat.reduceEqDiff,Nat.reduceAdd,Nat.reduceSub,Nat.reduceMul,Int.reduceLT,Int.reduceLE,Int.reduceNeg,Int.reduceToNat,reduceCtorEq,Nat.reduceBEq,Nat.reduceBNe,Qk,Qe,Value.cells,am,mm,keep, aint, nil26, nil26', u26, u28, lv]
  try (refine hK_ _ _ ?_; clear hK_ K_; repeat first | refine QL ?_ | refine QM ?_)
  (repeat first | refine Qo ?_ | refine Qn ?_); refine QK (by kernel_rfl) ?_; intro K_ hK_; simp -implicitDefEqProofs (disch := (try simp only [sl]); try omega) only [sm,QJ,Qj,Qi,Qq,QC,bd,look,aput,Qm,ty,↓reduceIte,Nat.reduceEqDiff,Nat.reduceAdd,Nat.reduceSub,Nat.reduceMul,Int.reduceLT,Int.reduceLE,Int.reduceNeg,Int.reduceToNat,reduceCtorEq,Nat.reduceBEq,Nat.reduceBNe,Qk,Qe,Value.cells,am,mm,keep, aint, nil26, nil26', u26, u28, lv]
  refine ACalls.mono (aUnwrap g op ⟨#[47]⟩ _ H5 (x35 _ _ q3)) ?_
  rintro _ H6 ⟨rfl, rfl⟩
  try simp -implicitDefEqProofs (disch := (try simp only [sl]); try omega) only [sm,QJ,Qj,Qi,Qq,QC,bd,look,aput,Qm,ty,↓reduceIte,Nat.reduceEqDiff,Nat.reduceAdd,Nat.reduceSub,Nat.reduceMul,Int.reduceLT,Int.reduceLE,Int.reduceNeg,Int.reduceToNat,reduceCtorEq,Nat.reduceBEq,Nat.reduceBNe,Qk,Qe,Value.cells,am,mm,keep, aint, nil26, nil26', u26, u28, lv]
  try (refine hK_ _ _ ?_; clear hK_ K_; repeat first | refine QL ?_ | refine QM ?_)
  refine AWp.forget ?_ (Forgets.keep [1, 2, 7, 8, 9, 10, 11, 12, 13])
  simp only [keep, look, ↓reduceIte, Nat.reduceEqDiff]
  (repeat first | refine Qo ?_ | refine Qn ?_); refine QK (by kernel_rfl) ?_; intro K_ hK_; simp -implicitDefEqProofs only [sm,QJ,Qj,Qi,Qq,QC,bd,look,aput,Qm,QI,abin,anil,ty,↓reduceIte,Nat.reduceEqDiff,Nat.reduceAdd,Nat.reduceSub,Nat.reduceMul,Int.reduceLT,Int.reduceLE,Int.reduceNeg,Int.reduceToNat,reduceCtorEq,Nat.reduceBEq,Nat.reduceBNe,Qk,Qe,Value.cells,am,keep, aint, nil26, nil26', u26, u28, lv]
  refine ACalls.mono (depth_calls _ _ _ H6 (hG3.mono x35) hz (co.mono x35) (by rw [List.length_cons]; omega)) ?_
  rintro _ H7 ⟨rfl, e7⟩
  have x37 := x35.trans e7
  try simp -implicitDefEqProofs only [sm,QJ,Qj,Qi,Qq,QC,bd,look,aput,Qm,QI,abin,anil,ty,↓reduceIte,Nat.reduceEqDiff,Nat.reduceAdd,Nat.reduceSub,Nat.reduceMul,Int.reduceLT,Int.reduceLE,Int.reduceNeg,Int.reduceToNat,reduceCtorEq,Nat.reduceBEq,Nat.reduceBNe,Qk,Qe,Value.cells,am,keep, aint, nil26, nil26', u26, u28, lv]
  try (refine hK_ _ _ ?_; clear hK_ K_; repeat first | refine QL ?_ | refine QM ?_)
  refine ACalls.mono (depth_calls _ _ _ H7 (hG3.mono x37) hz (cv3.mono x37) (by omega)) ?_
  rintro _ H8 ⟨rfl, e8⟩
  have x38 := x37.trans e8
  have hlen2 : I64 (rl.length + 1) = .int .i64 ((rl.length : Int) + 1) := by
    have : ((rl.length + 1 : Nat) : Int) = (rl.length : Int) + 1 := by omega
    show Value.int .i64 _ = _
    rw [this]
  have hlen3 : I64 rl.length = .int .i64 (rl.length : Int) := rfl
  have hwr : IntKind.i64.wrap ((rl.length : Int) + 1) = (rl.length : Int) + 1 := wi64 _ (by omega) (by omega)
  rw [hlen2]
  try simp -implicitDefEqProofs only [sm,QJ,Qj,Qi,Qq,QC,bd,look,aput,Qm,QI,abin,anil,ty,↓reduceIte,Nat.reduceEqDiff,Nat.reduceAdd,Nat.reduceSub,Nat.reduceMul,Int.reduceLT,Int.reduceLE,Int.reduceNeg,Int.reduceToNat,reduceCtorEq,Nat.reduceBEq,Nat.reduceBNe,Qk,Qe,Value.cells,am,keep, aint, nil26, nil26', u26, u28, lv, hii, hss, hwr]
  try (refine hK_ _ _ ?_; clear hK_ K_; repeat first | refine QL ?_ | refine QM ?_)
  refine ACalls.mono (code_calls _ 40 _ e H8 (hG3.mono x38) (co.mono x38)) ?_
  rintro _ H9 ⟨rfl, e9⟩
  have x39 := x38.trans e9
  try simp -implicitDefEqProofs only [sm,QJ,Qj,Qi,Qq,QC,bd,look,aput,Qm,QI,abin,anil,ty,↓reduceIte,Nat.reduceEqDiff,Nat.reduceAdd,Nat.reduceSub,Nat.reduceMul,Int.reduceLT,Int.reduceLE,Int.reduceNeg,Int.reduceToNat,reduceCtorEq,Nat.reduceBEq,Nat.reduceBNe,Qk,Qe,Value.cells,am,keep, aint, nil26, nil26', u26, u28, lv, hii, hss, hwr]
  try (refine hK_ _ _ ?_; clear hK_ K_; repeat first | refine QL ?_ | refine QM ?_)
  refine ACalls.mono (depth_calls _ _ _ H9 (hG3.mono x39) hz (cv3.mono x39) (by omega)) ?_
  rintro _ HA ⟨rfl, eA⟩
  have x3A := x39.trans eA
  try simp -implicitDefEqProofs only [sm,QJ,Qj,Qi,Qq,QC,bd,look,aput,Qm,QI,abin,anil,ty,↓reduceIte,Nat.reduceEqDiff,Nat.reduceAdd,Nat.reduceSub,Nat.reduceMul,Int.reduceLT,Int.reduceLE,Int.reduceNeg,Int.reduceToNat,reduceCtorEq,Nat.reduceBEq,Nat.reduceBNe,Qk,Qe,Value.cells,am,keep, aint, nil26, nil26', u26, u28, lv, hii, hss, hwr]
  try (refine hK_ _ _ ?_; clear hK_ K_; repeat first | refine QL ?_ | refine QM ?_)
  refine ACalls.mono (depth_calls _ _ _ HA (hG3.mono x3A) hz (cv3.mono x3A) (by omega)) ?_
  rintro _ HB ⟨rfl, eB⟩
  have x3B := x3A.trans eB
  have hE : endS (numZ e) (errS e) := .inl ⟨e, he, rfl, rfl⟩
  have tx1 := text_calls HB (hG3.mono x3B) (numZ e) (errS e) hE (errS_size he) rl _ (cv3.mono x3B) hrs (by omega)
  have tx2 := text_calls HB (hG3.mono x3B) (numZ e) (errS e) hE (errS_size he) ((op, ⟨#[47]⟩) :: rl) _ (co.mono x3B) (fun y hy => by
    rcases List.mem_cons.1 hy with rfl | hy
    · exact ⟨by show op.size ≤ 200; omega, by show (⟨#[47]⟩ : ByteArray).size ≤ 200; decide⟩
    · exact hrs y hy) (by rw [List.length_cons]; omega)
  have hts := txL_size rl (errS e) hrs
  have hte := errS_size he
  have htt : txL ((op, ⟨#[47]⟩) :: rl) (errS e) = (op ++ ⟨#[32, 47, 58, 32]⟩) ++ txL rl (errS e) := by
    rw [txL]
    congr 1
    show ((op ++ ⟨#[32]⟩) ++ ⟨#[47]⟩) ++ ⟨#[58, 32]⟩ = _
    rw [ByteArray.append_assoc, ByteArray.append_assoc]
    rfl
  rw [htt] at tx2
  have s4 : (⟨#[32, 47, 58, 32]⟩ : ByteArray).size = 4 := rfl
  have a1 := add_str (a := op) (b := ⟨#[32, 47, 58, 32]⟩) (by omega)
  have a2 := add_str (a := op ++ ⟨#[32, 47, 58, 32]⟩) (b := txL rl (errS e)) (by rw [ba_size]; omega)
  generalize txL rl (errS e) = tl at *
  try simp -implicitDefEqProofs only [sm,QJ,Qj,Qi,Qq,QC,bd,look,aput,Qm,QI,abin,anil,ty,↓reduceIte,Nat.reduceEqDiff,Nat.reduceAdd,Nat.reduceSub,Nat.reduceMul,Int.reduceLT,Int.reduceLE,Int.reduceNeg,Int.reduceToNat,reduceCtorEq,Nat.reduceBEq,Nat.reduceBNe,Qk,Qe,Value.cells,am,keep, aint, nil26, nil26', u26, u28, lv, hii, hss, hwr]
  try (refine hK_ _ _ ?_; clear hK_ K_; repeat first | refine QL ?_ | refine QM ?_)
  refine ACalls.mono (tx1) ?_
  rintro _ HC ⟨rfl, rfl⟩
  try simp -implicitDefEqProofs only [sm,QJ,Qj,Qi,Qq,QC,bd,look,aput,Qm,QI,abin,anil,ty,↓reduceIte,Nat.reduceEqDiff,Nat.reduceAdd,Nat.reduceSub,Nat.reduceMul,Int.reduceLT,Int.reduceLE,Int.reduceNeg,Int.reduceToNat,reduceCtorEq,Nat.reduceBEq,Nat.reduceBNe,Qk,Qe,Value.cells,am,keep, aint, nil26, nil26', u26, u28, lv, hii, hss, hwr]
  try (refine hK_ _ _ ?_; clear hK_ K_; repeat first | refine QL ?_ | refine QM ?_)
  refine ACalls.mono (tx1) ?_
  rintro _ HD ⟨rfl, rfl⟩
  try simp -implicitDefEqProofs only [sm,QJ,Qj,Qi,Qq,QC,bd,look,aput,Qm,QI,abin,anil,ty,↓reduceIte,Nat.reduceEqDiff,Nat.reduceAdd,Nat.reduceSub,Nat.reduceMul,Int.reduceLT,Int.reduceLE,Int.reduceNeg,Int.reduceToNat,reduceCtorEq,Nat.reduceBEq,Nat.reduceBNe,Qk,Qe,Value.cells,am,keep, aint, nil26, nil26', u26, u28, lv, hii, hss, hwr]
  try (refine hK_ _ _ ?_; clear hK_ K_; repeat first | refine QL ?_ | refine QM ?_)
  refine ACalls.mono (tx2) ?_
  rintro _ HE ⟨rfl, rfl⟩
  try simp -implicitDefEqProofs only [sm,QJ,Qj,Qi,Qq,QC,bd,look,aput,Qm,QI,abin,anil,ty,↓reduceIte,Nat.reduceEqDiff,Nat.reduceAdd,Nat.reduceSub,Nat.reduceMul,Int.reduceLT,Int.reduceLE,Int.reduceNeg,Int.reduceToNat,reduceCtorEq,Nat.reduceBEq,Nat.reduceBNe,Qk,Qe,Value.cells,am,keep, aint, nil26, nil26', u26, u28, lv, hii, hss, hwr, a1, a2]
  try (refine hK_ _ _ ?_; clear hK_ K_; repeat first | refine QL ?_ | refine QM ?_)
  refine ACalls.mono (tx1) ?_
  rintro _ HF ⟨rfl, rfl⟩
  try simp -implicitDefEqProofs only [sm,QJ,Qj,Qi,Qq,QC,bd,look,aput,Qm,QI,abin,anil,ty,↓reduceIte,Nat.reduceEqDiff,Nat.reduceAdd,Nat.reduceSub,Nat.reduceMul,Int.reduceLT,Int.reduceLE,Int.reduceNeg,Int.reduceToNat,reduceCtorEq,Nat.reduceBEq,Nat.reduceBNe,Qk,Qe,Value.cells,am,keep, aint, nil26, nil26', u26, u28, lv, hii, hss, hwr, a1, a2]
  try (refine hK_ _ _ ?_; clear hK_ K_; repeat first | refine QL ?_ | refine QM ?_)
  refine ACalls.mono (falive_calls HF (hG3.mono x3B)) ?_
  rintro _ HX ⟨rfl, eX⟩
  try simp -implicitDefEqProofs only [sm,QJ,Qj,Qi,Qq,QC,bd,look,aput,Qm,QI,abin,anil,ty,↓reduceIte,Nat.reduceEqDiff,Nat.reduceAdd,Nat.reduceSub,Nat.reduceMul,Int.reduceLT,Int.reduceLE,Int.reduceNeg,Int.reduceToNat,reduceCtorEq,Nat.reduceBEq,Nat.reduceBNe,Qk,Qe,Value.cells,am,keep, aint, nil26, nil26', u26, u28, lv, hii, hss, hwr, a1, a2]
  try (refine hK_ _ _ ?_; clear hK_ K_; repeat first | refine QL ?_ | refine QM ?_)
  first | refine awp_ret ?_ | skip
  show ∃ v, aresults Tryd.prog Tryd.f6 _ _ = some v ∧ _
  rw [aresults_1 (r := .tmp 6) (by kernel_rfl)]
  simp -implicitDefEqProofs (disch := (try simp only [sl]); try omega) only [aresult, Option.some.injEq, exists_eq_left', sm,Qj,Qi,Qq,QC,Qz,bd,QF,look,aput,QB,Qf,QA,ty,↓reduceIte,Nat.reduceEqDiff,Nat.reduceAdd,Nat.reduceSub,Nat.reduceMul,Int.reduceLT,Int.reduceLE,Int.reduceNeg,Int.reduceToNat,reduceCtorEq,Nat.reduceBEq,Nat.reduceBNe,Qk,Qe,Value.cells,am,mm,keep, aint, nil26, nil26', u26, u28, lv, hii, hss, hwr, a1, a2]
  rfl
end Go.Proofs.YtldfnfpinemedaaDoor
