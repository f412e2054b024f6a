/- ledger: Add, walked. -/
import Derived.Test.YtldfnfpinemedaaLe5
namespace Go.Proofs.Ytldfnfpinemedaa
open Go Go.RowKit
--hide
set_option linter.unusedSimpArgs false
set_option linter.unusedVariables false
set_option maxRecDepth 4000
theorem ACalls.len {P : Program} {f : FuncId} {args : Array Value} {H : AH} {R : Value → AH → Prop} (h : ACalls P f args H R) : ACalls P f args H (fun v H' => R v H' ∧ H.length ≤ H'.length) :=
  fun φ W args' hS hA => (h φ W args' hS hA).mono fun e W' ⟨v, v', H', φ', h1, h2, h3, h4, h5⟩ => ⟨v, v', H', φ', h1, h2, ⟨h3, h5.len⟩, h4, h5⟩
theorem take_drop_mid (A : List Rn) (x m : Rn) (t : List Rn) : (A ++ x :: m :: t).take (A.length + 1) ++ (A ++ x :: m :: t).drop (A.length + 1 + 1) = A ++ x :: t := by
  have e : A ++ x :: m :: t = (A ++ [x]) ++ m :: t := by simp
  have el : A.length + 1 = (A ++ [x]).length := by simp
  rw [e, el, List.take_left, ← List.drop_drop, List.drop_left]
  simp
def adE (L : List Rn) (u : Us) : Int := if okU u then (if memR L u then 7 else 0) else 1
def adL (L : List Rn) (u : Us) : List Rn := if adE L u = 0 then addL L u else L
set_option maxHeartbeats 16000000 in
theorem add_calls (p b : Nat) (w : Value) (L : List Rn) (u : Us) (H : AH) (h : LdI b p H w L) (hm : L.length ≤ 500) (hs : Canon L) (h0 : 0 ≤ u.1) (hb : b ≤ H.length) :
    ACalls Try.prog 15 #[.pointer (some ⟨p, 0, none⟩), .agg (usc u).toArray] H fun v H' => v = .int .i64 (adE L u) ∧ ∃ w', Upd b p w H w' (adL L u) H' := by
  have hp := h.1
  have c := AH.cells_own hp
  have hpl := got_lt hp
  have q0 : ([w, .bool true] : List Value)[0]? = some w := rfl
  have ul := usc_length u
  have uc := usc_cellv u
  have ut := usc_take u
  have u0 := usc_0 u
  have u1 := usc_1 u
  have fo_ : True := trivial
  have N_ := Now.start H
  have f_ := N_.has
  simp only [Has] at f_
  refine acalls_of_body Try.func15 rfl Try.ntmps15 (by simp) ?_
  simp only [argsT, Nat.reduceAdd]
  iterate 1 ((repeat first | refine Qo ?_ | refine Qn ?_); (first | (refine QK (by kernel_rfl) ?_; intro K_ hK_; simp -implicitDefEqProofs (disch := (try simp only [sl]); try omega) only [sm,QJ,Qj,Qi,Qq,QC,bd,look,aput,ty,↓reduceIte,Nat.reduceEqDiff,Nat.reduceAdd,Nat.reduceSub,Nat.reduceMul,Int.reduceLT,Int.reduceLE,Int.reduceNeg,Int.reduceToNat,reduceCtorEq,Nat.reduceBEq,Nat.reduceBNe,Qk,Qe,Value.cells,am,mm,keep, f_, fo_, aint, c, q0, ul, uc, ut, u0, u1, Bool.not_true]; refine hK_ _ _ ?_; clear hK_ K_; repeat first | refine QL ?_ | refine QM ?_)))
  first | refine AWp.snap8 N_ ?_ | refine AWp.snap7 N_ ?_ | refine AWp.snap6 N_ ?_ | refine AWp.snap5 N_ ?_ | refine AWp.snap4 N_ ?_ | refine AWp.snap3 N_ ?_ | refine AWp.snap2 N_ ?_ | refine AWp.snap1 N_ ?_
  clear fo_; have fo_ := f_; clear f_ N_; intro H1 xH1 lH1 N_
  have f_ := N_.has
  simp only [Has] at f_
  (repeat first | refine Qo ?_ | refine Qn ?_); refine QK (by kernel_rfl) ?_; intro K_ hK_; simp -implicitDefEqProofs (disch := (try simp only [sl]); try omega) only [sm,QJ,Qj,Qi,Qq,QC,bd,look,aput,Qm,QG,ty,↓reduceIte,Nat.reduceEqDiff,Nat.reduceAdd,Nat.reduceSub,Nat.reduceMul,Int.reduceLT,Int.reduceLE,Int.reduceNeg,Int.reduceToNat,reduceCtorEq,Nat.reduceBEq,Nat.reduceBNe,Qk,Qe,Value.cells,am,mm,keep, f_, fo_, aint, c, q0, ul, uc, ut, u0, u1, Bool.not_true]
  refine ACalls.mono (ok_calls p w true H1 (xH1 _ _ hp)) ?_
  rintro _ G ⟨rfl, rfl⟩
  try simp -implicitDefEqProofs (disch := (try simp only [sl]); try omega) only [sm,QJ,Qj,Qi,Qq,QC,bd,look,aput,Qm,QG,ty,↓reduceIte,Nat.reduceEqDiff,Nat.reduceAdd,Nat.reduceSub,Nat.reduceMul,Int.reduceLT,Int.reduceLE,Int.reduceNeg,Int.reduceToNat,reduceCtorEq,Nat.reduceBEq,Nat.reduceBNe,Qk,Qe,Value.cells,am,mm,keep, f_, fo_, aint, c, q0, ul, uc, ut, u0, u1, Bool.not_true]
  try (refine hK_ _ _ ?_; clear hK_ K_; repeat first | refine QL ?_ | refine QM ?_)
  repeat first | refine Qo ?_ | refine Qn ?_
  refine awp_if false rfl (by first | (simp only [aeval_tmp, look, ↓reduceIte, Nat.reduceEqDiff]; try rfl) | rfl) (fun h => absurd h (by decide)) (fun _ => ?_)
  by_cases hok : okU u
  case neg =>
    have hE : adE L u = 1 := by rw [adE, if_neg hok]
    have hL : adL L u = L := by rw [adL, hE, if_neg (by decide)]
    by_cases k0 : u.1 = 0
    · have e0 : (u.1 == 0) = true := by rw [beq_iff_eq]; exact k0
      iterate 1 ((repeat first | refine Qo ?_ | refine Qn ?_); (first | (refine QK (by kernel_rfl) ?_; intro K_ hK_; simp -implicitDefEqProofs (disch := (try simp only [sl]); try omega) only [sm,QJ,Qj,Qi,Qq,QC,Qz,bd,QF,look,aput,QI,abin,anil,Qc,QA,ty,↓reduceIte,Nat.reduceEqDiff,Nat.reduceAdd,Nat.reduceSub,Nat.reduceMul,Int.reduceLT,Int.reduceLE,Int.reduceNeg,Int.reduceToNat,reduceCtorEq,Nat.reduceBEq,Nat.reduceBNe,Qk,Qe,Value.cells,am,mm,keep, f_, fo_, aint, c, q0, ul, uc, ut, u0, u1, Bool.not_true, e0]; refine hK_ _ _ ?_; clear hK_ K_; repeat first | refine QL ?_ | refine QM ?_)))
      repeat first | refine Qo ?_ | refine Qn ?_
      refine awp_if true rfl (by first | (simp only [aeval_tmp, look, ↓reduceIte, Nat.reduceEqDiff]; try rfl) | rfl) (fun _ => ?_) (fun h => absurd h (by decide))
      iterate 1 ((repeat first | refine Qo ?_ | refine Qn ?_); (first | (refine QK (by kernel_rfl) ?_; intro K_ hK_; simp -implicitDefEqProofs (disch := (try simp only [sl]); try omega) only [sm,QJ,Qj,Qi,Qq,QC,bd,look,aput,ty,↓reduceIte,Nat.reduceEqDiff,Nat.reduceAdd,Nat.reduceSub,Nat.reduceMul,Int.reduceLT,Int.reduceLE,Int.reduceNeg,Int.reduceToNat,reduceCtorEq,Nat.reduceBEq,Nat.reduceBNe,Qk,Qe,Value.cells,am,mm,keep, f_, fo_, aint, c, q0, ul, uc, ut, u0, u1, Bool.not_true]; refine hK_ _ _ ?_; clear hK_ K_; repeat first | refine QL ?_ | refine QM ?_)))
      first | refine awp_ret ?_ | skip
      show ∃ v, aresults Try.prog Try.f15 _ _ = some v ∧ _
      rw [aresults_1 (r := .tmp 4) (by kernel_rfl)]
      simp -implicitDefEqProofs (disch := (try simp only [sl]); try omega) only [aresult, Option.some.injEq, exists_eq_left', sm,Qj,Qi,Qq,QC,Qz,bd,QF,look,aput,QB,Qf,QA,ty,↓reduceIte,Nat.reduceEqDiff,Nat.reduceAdd,Nat.reduceSub,Nat.reduceMul,Int.reduceLT,Int.reduceLE,Int.reduceNeg,Int.reduceToNat,reduceCtorEq,Nat.reduceBEq,Nat.reduceBNe,Qk,Qe,Value.cells,am,mm,keep, f_, fo_, aint, c, q0, ul, uc, ut, u0, u1, Bool.not_true]
      rw [hE, hL]
      exact ⟨rfl, w, Upd.of_ext h N_.ext⟩
    have e0 : (u.1 == 0) = false := by rw [beq_eq_false_iff_ne]; exact k0
    by_cases k1 : u.2 < 0
    · -- (cursor back)
      iterate 1 ((repeat first | refine Qo ?_ | refine Qn ?_); (first | (refine QK (by kernel_rfl) ?_; intro K_ hK_; simp -implicitDefEqProofs (disch := (try simp only [sl]); try omega) only [sm,QJ,Qj,Qi,Qq,QC,Qz,bd,QF,look,aput,QI,abin,anil,Qc,QA,ty,↓reduceIte,Nat.reduceEqDiff,Nat.reduceAdd,Nat.reduceSub,Nat.reduceMul,Int.reduceLT,Int.reduceLE,Int.reduceNeg,Int.reduceToNat,reduceCtorEq,Nat.reduceBEq,Nat.reduceBNe,Qk,Qe,Value.cells,am,mm,keep, f_, fo_, aint, c, q0, ul, uc, ut, u0, u1, Bool.not_true, e0, k1]; refine hK_ _ _ ?_; clear hK_ K_; repeat first | refine QL ?_ | refine QM ?_)))
      repeat first | refine Qo ?_ | refine Qn ?_
      refine awp_if true rfl (by first | (simp only [aeval_tmp, look, ↓reduceIte, Nat.reduceEqDiff]; try rfl) | rfl) (fun _ => ?_) (fun h => absurd h (by decide))
      iterate 1 ((repeat first | refine Qo ?_ | refine Qn ?_); (first | (refine QK (by kernel_rfl) ?_; intro K_ hK_; simp -implicitDefEqProofs (disch := (try simp only [sl]); try omega) only [sm,QJ,Qj,Qi,Qq,QC,bd,look,aput,ty,↓reduceIte,Nat.reduceEqDiff,Nat.reduceAdd,Nat.reduceSub,Nat.reduceMul,Int.reduceLT,Int.reduceLE,Int.reduceNeg,Int.reduceToNat,reduceCtorEq,Nat.reduceBEq,Nat.reduceBNe,Qk,Qe,Value.cells,am,mm,keep, f_, fo_, aint, c, q0, ul, uc, ut, u0, u1, Bool.not_true]; refine hK_ _ _ ?_; clear hK_ K_; repeat first | refine QL ?_ | refine QM ?_)))
      first | refine awp_ret ?_ | skip
      show ∃ v, aresults Try.prog Try.f15 _ _ = some v ∧ _
      rw [aresults_1 (r := .tmp 4) (by kernel_rfl)]
      simp -implicitDefEqProofs (disch := (try simp only [sl]); try omega) only [aresult, Option.some.injEq, exists_eq_left', sm,Qj,Qi,Qq,QC,Qz,bd,QF,look,aput,QB,Qf,QA,ty,↓reduceIte,Nat.reduceEqDiff,Nat.reduceAdd,Nat.reduceSub,Nat.reduceMul,Int.reduceLT,Int.reduceLE,Int.reduceNeg,Int.reduceToNat,reduceCtorEq,Nat.reduceBEq,Nat.reduceBNe,Qk,Qe,Value.cells,am,mm,keep, f_, fo_, aint, c, q0, ul, uc, ut, u0, u1, Bool.not_true]
      rw [hE, hL]
      exact ⟨rfl, w, Upd.of_ext h N_.ext⟩
    have k2 : u.2 ≥ 65536 := by unfold okU at hok; omega
    iterate 1 ((repeat first | refine Qo ?_ | refine Qn ?_); (first | (refine QK (by kernel_rfl) ?_; intro K_ hK_; simp -implicitDefEqProofs (disch := (try simp only [sl]); try omega) only [sm,QJ,Qj,Qi,Qq,QC,Qz,bd,QF,look,aput,QI,abin,anil,Qc,QA,ty,↓reduceIte,Nat.reduceEqDiff,Nat.reduceAdd,Nat.reduceSub,Nat.reduceMul,Int.reduceLT,Int.reduceLE,Int.reduceNeg,Int.reduceToNat,reduceCtorEq,Nat.reduceBEq,Nat.reduceBNe,Qk,Qe,Value.cells,am,mm,keep, f_, fo_, aint, c, q0, ul, uc, ut, u0, u1, Bool.not_true, e0, k1, k2]; refine hK_ _ _ ?_; clear hK_ K_; repeat first | refine QL ?_ | refine QM ?_)))
    repeat first | refine Qo ?_ | refine Qn ?_
    refine awp_if true rfl (by first | (simp only [aeval_tmp, look, ↓reduceIte, Nat.reduceEqDiff]; try rfl) | rfl) (fun _ => ?_) (fun h => absurd h (by decide))
    iterate 1 ((repeat first | refine Qo ?_ | refine Qn ?_); (first | (refine QK (by kernel_rfl) ?_; intro K_ hK_; simp -implicitDefEqProofs (disch := (try simp only [sl]); try omega) only [sm,QJ,Qj,Qi,Qq,QC,bd,look,aput,ty,↓reduceIte,Nat.reduceEqDiff,Nat.reduceAdd,Nat.reduceSub,Nat.reduceMul,Int.reduceLT,Int.reduceLE,Int.reduceNeg,Int.reduceToNat,reduceCtorEq,Nat.reduceBEq,Nat.reduceBNe,Qk,Qe,Value.cells,am,mm,keep, f_, fo_, aint, c, q0, ul, uc, ut, u0, u1, Bool.not_true]; refine hK_ _ _ ?_; clear hK_ K_; repeat first | refine QL ?_ | refine QM ?_)))
    first | refine awp_ret ?_ | skip
    show ∃ v, aresults Try.prog Try.f15 _ _ = some v ∧ _
    rw [aresults_1 (r := .tmp 4) (by kernel_rfl)]
    simp -implicitDefEqProofs (disch := (try simp only [sl]); try omega) only [aresult, Option.some.injEq, exists_eq_left', sm,Qj,Qi,Qq,QC,Qz,bd,QF,look,aput,QB,Qf,QA,ty,↓reduceIte,Nat.reduceEqDiff,Nat.reduceAdd,Nat.reduceSub,Nat.reduceMul,Int.reduceLT,Int.reduceLE,Int.reduceNeg,Int.reduceToNat,reduceCtorEq,Nat.reduceBEq,Nat.reduceBNe,Qk,Qe,Value.cells,am,mm,keep, f_, fo_, aint, c, q0, ul, uc, ut, u0, u1, Bool.not_true]
    rw [hE, hL]
    exact ⟨rfl, w, Upd.of_ext h N_.ext⟩
  have e0 : (u.1 == 0) = false := by rw [beq_eq_false_iff_ne]; exact hok.1
  have k1 : ¬ u.2 < 0 := by have := hok.2.1; omega
  have k2 : ¬ u.2 ≥ 65536 := by have := hok.2.2; omega
  iterate 1 ((repeat first | refine Qo ?_ | refine Qn ?_); (first | (refine QK (by kernel_rfl) ?_; intro K_ hK_; simp -implicitDefEqProofs (disch := (try simp only [sl]); try omega) only [sm,QJ,Qj,Qi,Qq,QC,Qz,bd,QF,look,aput,QI,abin,anil,Qc,QA,ty,↓reduceIte,Nat.reduceEqDiff,Nat.reduceAdd,Nat.reduceSub,Nat.reduceMul,Int.reduceLT,Int.reduceLE,Int.reduceNeg,Int.reduceToNat,reduceCtorEq,Nat.reduceBEq,Nat.reduceBNe,Qk,Qe,Value.cells,am,mm,keep, f_, fo_, aint, c, q0, ul, uc, ut, u0, u1, Bool.not_true, e0, k1, k2]; refine hK_ _ _ ?_; clear hK_ K_; repeat first | refine QL ?_ | refine QM ?_)))
  repeat first | refine Qo ?_ | refine Qn ?_
  refine awp_if false rfl (by first | (simp only [aeval_tmp, look, ↓reduceIte, Nat.reduceEqDiff]; try rfl) | rfl) (fun h => absurd h (by decide)) (fun _ => ?_)
  (repeat first | refine Qo ?_ | refine Qn ?_); refine QK (by kernel_rfl) ?_; intro K_ hK_; simp -implicitDefEqProofs (disch := (try simp only [sl]); try omega) only [sm,QJ,Qj,Qi,Qq,QC,Qz,bd,QF,look,aput,Qm,QA,ty,↓reduceIte,Nat.reduceEqDiff,Nat.reduceAdd,Nat.reduceSub,Nat.reduceMul,Int.reduceLT,Int.reduceLE,Int.reduceNeg,Int.reduceToNat,reduceCtorEq,Nat.reduceBEq,Nat.reduceBNe,Qk,Qe,Value.cells,am,mm,keep, f_, fo_, aint, c, q0, ul, uc, ut, u0, u1, Bool.not_true]
  refine ACalls.mono (has_calls p b w L u G (h.mono xH1) (by omega) hs) ?_
  rintro _ H2 ⟨rfl, e2⟩
  replace N_ := N_.grow e2
  clear fo_; have fo_ := f_; clear f_
  have f_ := N_.has
  simp only [Has] at f_
  by_cases hmem : memR L u
  · have hE : adE L u = 7 := by rw [adE, if_pos hok, if_pos hmem]
    have hL : adL L u = L := by rw [adL, hE, if_neg (by decide)]
    try simp -implicitDefEqProofs (disch := (try simp only [sl]); try omega) only [sm,QJ,Qj,Qi,Qq,QC,Qz,bd,QF,look,aput,Qm,QA,ty,↓reduceIte,Nat.reduceEqDiff,Nat.reduceAdd,Nat.reduceSub,Nat.reduceMul,Int.reduceLT,Int.reduceLE,Int.reduceNeg,Int.reduceToNat,reduceCtorEq,Nat.reduceBEq,Nat.reduceBNe,Qk,Qe,Value.cells,am,mm,keep, f_, fo_, aint, c, q0, ul, uc, ut, u0, u1, Bool.not_true, decide_eq_true hmem]
    try (refine hK_ _ _ ?_; clear hK_ K_; repeat first | refine QL ?_ | refine QM ?_)
    repeat first | refine Qo ?_ | refine Qn ?_
    refine awp_if true rfl (by first | (simp only [aeval_tmp, look, ↓reduceIte, Nat.reduceEqDiff]; try rfl) | rfl) (fun _ => ?_) (fun h => absurd h (by decide))
    iterate 1 ((repeat first | refine Qo ?_ | refine Qn ?_); (first | (refine QK (by kernel_rfl) ?_; intro K_ hK_; simp -implicitDefEqProofs (disch := (try simp only [sl]); try omega) only [sm,QJ,Qj,Qi,Qq,QC,bd,look,aput,ty,↓reduceIte,Nat.reduceEqDiff,Nat.reduceAdd,Nat.reduceSub,Nat.reduceMul,Int.reduceLT,Int.reduceLE,Int.reduceNeg,Int.reduceToNat,reduceCtorEq,Nat.reduceBEq,Nat.reduceBNe,Qk,Qe,Value.cells,am,mm,keep, f_, fo_, aint, c, q0, ul, uc, ut, u0, u1, Bool.not_true]; refine hK_ _ _ ?_; clear hK_ K_; repeat first | refine QL ?_ | refine QM ?_)))
    first | refine awp_ret ?_ | skip
    show ∃ v, aresults Try.prog Try.f15 _ _ = some v ∧ _
    rw [aresults_1 (r := .tmp 4) (by kernel_rfl)]
    simp -implicitDefEqProofs (disch := (try simp only [sl]); try omega) only [aresult, Option.some.injEq, exists_eq_left', sm,Qj,Qi,Qq,QC,Qz,bd,QF,look,aput,QB,Qf,QA,ty,↓reduceIte,Nat.reduceEqDiff,Nat.reduceAdd,Nat.reduceSub,Nat.reduceMul,Int.reduceLT,Int.reduceLE,Int.reduceNeg,Int.reduceToNat,reduceCtorEq,Nat.reduceBEq,Nat.reduceBNe,Qk,Qe,Value.cells,am,mm,keep, f_, fo_, aint, c, q0, ul, uc, ut, u0, u1, Bool.not_true]
    rw [hE, hL]
    exact ⟨rfl, w, Upd.of_ext h N_.ext⟩
  have hE : adE L u = 0 := by rw [adE, if_pos hok, if_neg hmem]
  have hL : adL L u = addL L u := by rw [adL, if_pos hE]
  try simp -implicitDefEqProofs (disch := (try simp only [sl]); try omega) only [sm,QJ,Qj,Qi,Qq,QC,Qz,bd,QF,look,aput,Qm,QA,ty,↓reduceIte,Nat.reduceEqDiff,Nat.reduceAdd,Nat.reduceSub,Nat.reduceMul,Int.reduceLT,Int.reduceLE,Int.reduceNeg,Int.reduceToNat,reduceCtorEq,Nat.reduceBEq,Nat.reduceBNe,Qk,Qe,Value.cells,am,mm,keep, f_, fo_, aint, c, q0, ul, uc, ut, u0, u1, Bool.not_true, decide_eq_false hmem]
  try (refine hK_ _ _ ?_; clear hK_ K_; repeat first | refine QL ?_ | refine QM ?_)
  repeat first | refine Qo ?_ | refine Qn ?_
  refine awp_if false rfl (by first | (simp only [aeval_tmp, look, ↓reduceIte, Nat.reduceEqDiff]; try rfl) | rfl) (fun h => absurd h (by decide)) (fun _ => ?_)
  iterate 1 ((repeat first | refine Qo ?_ | refine Qn ?_); (first | (refine QK (by kernel_rfl) ?_; intro K_ hK_; simp -implicitDefEqProofs (disch := (try simp only [sl]); try omega) only [sm,QJ,Qj,Qi,Qq,QC,Qz,bd,QF,look,aput,Qm,QA,ty,↓reduceIte,Nat.reduceEqDiff,Nat.reduceAdd,Nat.reduceSub,Nat.reduceMul,Int.reduceLT,Int.reduceLE,Int.reduceNeg,Int.reduceToNat,reduceCtorEq,Nat.reduceBEq,Nat.reduceBNe,Qk,Qe,Value.cells,am,mm,keep, f_, fo_, aint, c, q0, ul, uc, ut, u0, u1, Bool.not_true]; refine hK_ _ _ ?_; clear hK_ K_; repeat first | refine QL ?_ | refine QM ?_) | (refine awp_skip ?_; repeat first | refine QL ?_ | refine QM ?_)))
  (repeat first | refine Qo ?_ | refine Qn ?_); refine QK (by kernel_rfl) ?_; intro K_ hK_; simp -implicitDefEqProofs (disch := (try simp only [sl]); try omega) only [sm,QJ,Qj,Qi,Qq,QC,Qz,bd,QF,look,aput,Qm,QA,ty,↓reduceIte,Nat.reduceEqDiff,Nat.reduceAdd,Nat.reduceSub,Nat.reduceMul,Int.reduceLT,Int.reduceLE,Int.reduceNeg,Int.reduceToNat,reduceCtorEq,Nat.reduceBEq,Nat.reduceBNe,Qk,Qe,Value.cells,am,mm,keep, f_, fo_, aint, c, q0, ul, uc, ut, u0, u1, Bool.not_true]
  refine ACalls.mono (place_calls p b w L u H2 (h.mono N_.ext) (by omega) hs) ?_
  rintro _ H3 ⟨rfl, e3⟩
  replace N_ := N_.grow e3
  clear fo_; have fo_ := f_; clear f_
  have f_ := N_.has
  simp only [Has] at f_
  have x3 : Ext H H3 := N_.ext
  have c3 := x3.cells c
  try simp -implicitDefEqProofs (disch := (try simp only [sl]); try omega) only [sm,QJ,Qj,Qi,Qq,QC,Qz,bd,QF,look,aput,Qm,QA,ty,↓reduceIte,Nat.reduceEqDiff,Nat.reduceAdd,Nat.reduceSub,Nat.reduceMul,Int.reduceLT,Int.reduceLE,Int.reduceNeg,Int.reduceToNat,reduceCtorEq,Nat.reduceBEq,Nat.reduceBNe,Qk,Qe,Value.cells,am,mm,keep, f_, fo_, aint, c3, q0, ul, uc, ut, u0, u1, bd, bda]
  try (refine hK_ _ _ ?_; clear hK_ K_; repeat first | refine QL ?_ | refine QM ?_)
  (repeat first | refine Qo ?_ | refine Qn ?_); refine awp_region_drawK (id := 8) [(0, []), (1, []), (2, []), (3, []), (4, []), (5, []), (6, []), (7, []), (8, []), (9, []), (10, []), (11, []), (12, []), (13, []), (14, []), (15, [])] mixed (by kernel_rfl) ?_; intro K_ hK_; simp -implicitDefEqProofs (disch := (try simp only [sl]); try omega) only [sm,aSel,Qu,Qv,Qw,Qx,Qy,Qj,Qi,Qq,QC,Qz,bd,QF,look,aput,Qm,Qc,QA,Qd,ty,↓reduceIte,Nat.reduceEqDiff,Nat.reduceAdd,Nat.reduceSub,Nat.reduceMul,Int.reduceLT,Int.reduceLE,Int.reduceNeg,Int.reduceToNat,reduceCtorEq,Nat.reduceBEq,Nat.reduceBNe,Qk,Qe,Value.cells,am,mm,keep, f_, fo_, aint, c3, q0, ul, uc, ut, u0, u1, bd, bda]
  first | refine ACalls.snap8 N_ ?_ | refine ACalls.snap7 N_ ?_ | refine ACalls.snap6 N_ ?_ | refine ACalls.snap5 N_ ?_ | refine ACalls.snap4 N_ ?_ | refine ACalls.snap3 N_ ?_ | refine ACalls.snap2 N_ ?_ | refine ACalls.snap1 N_ ?_
  clear fo_; have fo_ := f_; clear f_ N_; intro H4 xH4 lH4 N_
  have f_ := N_.has
  simp only [Has] at f_
  have x4 : Ext H H4 := N_.ext
  have U4 := Upd.of_ext h x4
  refine ACalls.mono ((insR_calls w L (x1R u) (plR L u) H3.length b H4 U4.ld.2.1 (by have := x4.length; omega) f_.1.2.1 (fun o n e k => by have := (h.2.1.lt _ _ _ _ k).1; have := x3.length; omega) (plR_le _ _) (by omega)).len) ?_
  rintro w5 H5 ⟨⟨d5, r5, fr5⟩, l5⟩
  obtain ⟨g0, C0, hw5, -⟩ := d5.at (by rw [List.length_append, List.length_cons]; omega)
  obtain ⟨n, hn⟩ : ∃ n, n = (L.take (plR L u) ++ x1R u :: L.drop (plR L u)).length := ⟨_, rfl⟩
  rw [← hn] at hw5
  subst hw5
  have U6 := U4.put d5 r5 fr5 l5
  have b5 := r5 _ _ h.2.2.2 U4.ld.1
  have b5c := AH.cells_own b5
  have b5l := got_lt b5
  have hset : ∀ w5 : Value, ([w, .bool true] : List Value).set 0 w5 = [w5, .bool true] := fun _ => rfl
  obtain ⟨A, hAe⟩ : ∃ A, A = L.take (plR L u) := ⟨_, rfl⟩
  obtain ⟨B, hBe⟩ : ∃ B, B = L.drop (plR L u) := ⟨_, rfl⟩
  have hi : plR L u = A.length := by rw [hAe, List.length_take]; have := plR_le L u; omega
  have hadd : addL L u = (loM (hiM u B).1 A).1 ++ (loM (hiM u B).1 A).2 :: (hiM u B).2 := by rw [hAe, hBe]; rfl
  have hLAB : L = A ++ B := by rw [hAe, hBe, List.take_append_drop]
  have hAok : ∀ a ∈ A, okR a := fun a ha => hs.1 a (by rw [hLAB]; exact List.mem_append_left _ ha)
  have hBok : ∀ a ∈ B, okR a := fun a ha => hs.1 a (by rw [hLAB]; exact List.mem_append_right _ ha)
  have hABl : A.length + B.length ≤ 500 := by rw [hLAB, List.length_append] at hm; exact hm
  rw [← hAe, ← hBe] at U6 hn
  have hx1ok : okR (x1R u) := by
    have := hok.1; have := hok.2.1; have := hok.2.2
    show 1 ≤ u.1 ∧ 0 ≤ u.2 ∧ (1 : Int) ≤ 1 ∧ u.2 + 1 ≤ 65536
    omega
  clear d5 r5 fr5
  try simp -implicitDefEqProofs (disch := (try simp only [sl]); try omega) only [sm,aSel,Qu,Qv,Qw,Qx,Qy,Qj,Qi,Qq,QC,Qz,bd,QF,look,aput,Qm,Qc,QA,Qd,ty,↓reduceIte,Nat.reduceEqDiff,Nat.reduceAdd,Nat.reduceSub,Nat.reduceMul,Int.reduceLT,Int.reduceLE,Int.reduceNeg,Int.reduceToNat,reduceCtorEq,Nat.reduceBEq,Nat.reduceBNe,Qk,Qe,Value.cells,am,mm,keep, f_, fo_, aint, b5, b5c, b5l, hset]
  try (refine hK_ _ _ ?_; clear hK_ K_; repeat first | refine QL ?_ | refine QM ?_)
  rw [hi]
  clear hset b5 b5c b5l f_ fo_ N_
  obtain ⟨H6, hH6⟩ : ∃ H6, H6 = H5.set p (.own [.slice (some ⟨g0, 0, none⟩) n 3, .bool true]) := ⟨_, rfl⟩
  rw [← hH6] at U6 ⊢
  clear hH6
  obtain ⟨g, C, hwe, hg, hCl, hCt, hbg⟩ := U6.ld.2.1.at (by rw [List.length_append, List.length_cons]; omega)
  simp only [Value.slice.injEq, Option.some.injEq, Addr.mk.injEq] at hwe
  obtain ⟨⟨rfl, -, -⟩, -, -⟩ := hwe
  have c6 := AH.cells_own U6.ld.1
  have cg6 := AH.cells_own hg
  have q06 : ∀ v : Value, ([v, .bool true] : List Value)[0]? = some v := fun _ => rfl
  have w1 : IntKind.i64.wrap ((A.length : Int) + 1) = ((A.length + 1 : Nat) : Int) := by rw [wi64 _ (by omega) (by omega)]; omega
  have hn1 : (A ++ x1R u :: B).length = A.length + 1 + B.length := by rw [List.length_append, List.length_cons]; omega
  obtain ⟨m1, -, m3⟩ := at_mid rfl hCt hCl
  have m2 : C[A.length * 3 + 2]? = some (.int .i64 1) := (at_mid rfl hCt hCl).2.1
  rw [← hn] at hCl hCt hn1
  have x1l := ruc_length (x1R u)
  have x1c := ruc_cellv (x1R u)
  have i0 : A.length < n := by omega
  cases B with
  | nil =>
    have hlt : ¬ ((A.length + 1 : Nat) : Int) < (n : Int) := by simp at hn1; omega
    have U7 := U6
    obtain ⟨m, hm⟩ : ∃ m, m = (hiM u []).1 := ⟨_, rfl⟩
    obtain ⟨t, ht⟩ : ∃ t, t = (hiM u []).2 := ⟨_, rfl⟩
    have hmo : okR m := by rw [hm]; exact hx1ok
    rw [← hm, ← ht] at hadd
    rw [show (A ++ [x1R u] : List Rn) = A ++ m :: t by rw [hm, ht]; rfl] at U7
    obtain ⟨W7, hW7⟩ : ∃ W7, W7 = Value.slice (some ⟨g0, 0, none⟩) n 3 := ⟨_, rfl⟩
    rw [← hW7] at U7
    (repeat first | refine Qo ?_ | refine Qn ?_); refine awp_region_drawK (id := 9) [(0, []), (1, []), (2, []), (3, []), (4, []), (5, []), (6, []), (7, []), (8, []), (9, []), (10, []), (11, []), (12, []), (13, []), (14, []), (15, []), (16, []), (17, []), (18, []), (19, []), (20, []), (21, []), (22, []), (23, []), (24, []), (25, [])] mixed (by kernel_rfl) ?_; intro K_ hK_; simp -implicitDefEqProofs (disch := (try simp only [sl]); try omega) only [sm,aSel,Qu,Qv,Qw,Qx,Qy,Qj,Qi,Qq,QC,Qz,bd,QF,look,aput,Qm,QI,abin,anil,Qb,Qc,QA,Qd,ty,↓reduceIte,Nat.reduceEqDiff,Nat.reduceAdd,Nat.reduceSub,Nat.reduceMul,Int.reduceLT,Int.reduceLE,Int.reduceNeg,Int.reduceToNat,reduceCtorEq,Nat.reduceBEq,Nat.reduceBNe,Qk,Qe,Value.cells,am,mm,keep, aint, c6, q06, w1, hlt]
    try simp -implicitDefEqProofs (disch := (try simp only [sl]); try omega) only [sm,aSel,Qu,Qv,Qw,Qx,Qy,Qj,Qi,Qq,QC,Qz,bd,QF,look,aput,Qm,QI,abin,anil,Qb,Qc,QA,Qd,ty,↓reduceIte,Nat.reduceEqDiff,Nat.reduceAdd,Nat.reduceSub,Nat.reduceMul,Int.reduceLT,Int.reduceLE,Int.reduceNeg,Int.reduceToNat,reduceCtorEq,Nat.reduceBEq,Nat.reduceBNe,Qk,Qe,Value.cells,am,mm,keep, aint, c6, q06, w1, hlt]
    try (refine hK_ _ _ ?_; clear hK_ K_; repeat first | refine QL ?_ | refine QM ?_)
    repeat first | refine Qo ?_ | refine Qn ?_
    refine awp_if false rfl (by first | (simp only [aeval_tmp, look, ↓reduceIte, Nat.reduceEqDiff]; try rfl) | rfl) (fun h => absurd h (by decide)) (fun _ => ?_)
    iterate 1 ((repeat first | refine Qo ?_ | refine Qn ?_); (first | (refine awp_skip ?_; repeat first | refine QL ?_ | refine QM ?_)))
    have htl : A.length + t.length ≤ 500 := by rw [ht]; simp [hiM]; omega
    clear m1 m2 m3 hCl hCt hg cg6 c6
    obtain ⟨g7, C7, rfl, hg7, hCl7, hCt7, hbg7⟩ := U7.ld.2.1.at (by rw [List.length_append, List.length_cons]; omega)
    have hp7 := U7.ld.1
    have c7 := AH.cells_own hp7
    have cg7 := AH.cells_own hg7
    have hn7 : (A ++ m :: t).length = A.length + 1 + t.length := by rw [List.length_append, List.length_cons]; omega
    obtain ⟨n7, hnd⟩ : ∃ n, n = (A ++ m :: t).length := ⟨_, rfl⟩
    rw [← hnd] at hCl7 hCt7 hn7 U7 hp7 c7
    rcases List.eq_nil_or_concat A with hA0 | ⟨A', pr, hA0⟩
    · have hgt : ¬ ((A.length : Int) > 0) := by rw [hA0]; simp
      (repeat first | refine Qo ?_ | refine Qn ?_); refine awp_region_drawK (id := 12) [(0, []), (1, []), (2, []), (3, []), (4, []), (5, []), (6, []), (7, []), (8, []), (9, []), (10, []), (11, []), (12, []), (13, []), (14, []), (15, []), (16, []), (17, []), (18, []), (19, [])] mixed (by kernel_rfl) ?_; intro K_ hK_; simp -implicitDefEqProofs (disch := (try simp only [sl]); try omega) only [sm,aSel,Qu,Qv,Qw,Qx,Qy,Qj,Qi,Qq,QC,Qz,bd,QF,look,aput,Qm,QI,abin,anil,Qb,Qc,QA,Qd,ty,↓reduceIte,Nat.reduceEqDiff,Nat.reduceAdd,Nat.reduceSub,Nat.reduceMul,Int.reduceLT,Int.reduceLE,Int.reduceNeg,Int.reduceToNat,reduceCtorEq,Nat.reduceBEq,Nat.reduceBNe,Qk,Qe,Value.cells,am,mm,keep, aint, c7, q06, hgt]
      try simp -implicitDefEqProofs (disch := (try simp only [sl]); try omega) only [sm,aSel,Qu,Qv,Qw,Qx,Qy,Qj,Qi,Qq,QC,Qz,bd,QF,look,aput,Qm,QI,abin,anil,Qb,Qc,QA,Qd,ty,↓reduceIte,Nat.reduceEqDiff,Nat.reduceAdd,Nat.reduceSub,Nat.reduceMul,Int.reduceLT,Int.reduceLE,Int.reduceNeg,Int.reduceToNat,reduceCtorEq,Nat.reduceBEq,Nat.reduceBNe,Qk,Qe,Value.cells,am,mm,keep, aint, c7, q06, hgt]
      try (refine hK_ _ _ ?_; clear hK_ K_; repeat first | refine QL ?_ | refine QM ?_)
      repeat first | refine Qo ?_ | refine Qn ?_
      refine awp_if false rfl (by first | (simp only [aeval_tmp, look, ↓reduceIte, Nat.reduceEqDiff]; try rfl) | rfl) (fun h => absurd h (by decide)) (fun _ => ?_)
      iterate 2 ((repeat first | refine Qo ?_ | refine Qn ?_); (first | (refine QK (by kernel_rfl) ?_; intro K_ hK_; simp -implicitDefEqProofs (disch := (try simp only [sl]); try omega) only [sm,QJ,Qj,Qi,Qq,QC,bd,look,aput,ty,↓reduceIte,Nat.reduceEqDiff,Nat.reduceAdd,Nat.reduceSub,Nat.reduceMul,Int.reduceLT,Int.reduceLE,Int.reduceNeg,Int.reduceToNat,reduceCtorEq,Nat.reduceBEq,Nat.reduceBNe,Qk,Qe,Value.cells,am,mm,keep, aint, c7, q06, hgt]; refine hK_ _ _ ?_; clear hK_ K_; repeat first | refine QL ?_ | refine QM ?_) | (refine awp_skip ?_; repeat first | refine QL ?_ | refine QM ?_)))
      first | refine awp_ret ?_ | skip
      show ∃ v, aresults Try.prog Try.f15 _ _ = some v ∧ _
      rw [aresults_1 (r := .tmp 4) (by kernel_rfl)]
      simp -implicitDefEqProofs (disch := (try simp only [sl]); try omega) only [aresult, Option.some.injEq, exists_eq_left', sm,Qj,Qi,Qq,QC,Qz,bd,QF,look,aput,QB,Qf,QA,ty,↓reduceIte,Nat.reduceEqDiff,Nat.reduceAdd,Nat.reduceSub,Nat.reduceMul,Int.reduceLT,Int.reduceLE,Int.reduceNeg,Int.reduceToNat,reduceCtorEq,Nat.reduceBEq,Nat.reduceBNe,Qk,Qe,Value.cells,am,mm,keep, aint, c7, q06, hgt]
      have U8 : Upd b p w H (.slice (some ⟨g7, 0, none⟩) n7 3) (adL L u) H6 := by
        rw [hL, hadd, hA0]
        rw [hA0] at U7
        exact U7
      exact ⟨by rw [hE], _, U8⟩
    · rw [List.concat_eq_append] at hA0
      have hAl : A.length = A'.length + 1 := by rw [hA0]; simp
      have hgt : ((A.length : Int) > 0) := by omega
      have w7 : IntKind.i64.wrap ((A.length : Int) - 1) = ((A'.length : Nat) : Int) := by rw [wi64 _ (by omega) (by omega)]; omega
      have hlA : A ++ m :: t = A' ++ pr :: (m :: t) := by rw [hA0, List.append_assoc]; rfl
      obtain ⟨p1, p2, p3⟩ := at_mid (n := n7) (A := A') (x := pr) (B := m :: t) (by rw [hnd, hlA]) (by rw [hCt7, hlA]) hCl7
      obtain ⟨r1, r2, r3⟩ := at_mid (n := n7) (A := A) (x := m) (B := t) hnd hCt7 hCl7
      have prok : okR pr := hAok pr (by rw [hA0]; simp)
      have il := ruc_length pr
      have ic := ruc_cellv pr
      have jl := ruc_length m
      have jc := ruc_cellv m
      have i7 : A.length < n7 := by omega
      have i8 : A'.length < n7 := by omega
      (repeat first | refine Qo ?_ | refine Qn ?_); refine awp_region_drawK (id := 12) [(0, []), (1, []), (2, []), (3, []), (4, []), (5, []), (6, []), (7, []), (8, []), (9, []), (10, []), (11, []), (12, []), (13, []), (14, []), (15, []), (16, []), (17, []), (18, []), (19, [])] mixed (by kernel_rfl) ?_; intro K_ hK_; simp -implicitDefEqProofs (disch := (try simp only [sl]); try omega) only [sm,aSel,Qu,Qv,Qw,Qx,Qy,Qj,Qi,Qq,QC,Qz,bd,QF,look,aput,Qm,QI,abin,anil,Qb,Qc,QA,Qd,ty,↓reduceIte,Nat.reduceEqDiff,Nat.reduceAdd,Nat.reduceSub,Nat.reduceMul,Int.reduceLT,Int.reduceLE,Int.reduceNeg,Int.reduceToNat,reduceCtorEq,Nat.reduceBEq,Nat.reduceBNe,Qk,Qe,Value.cells,am,mm,keep, aint, c7, q06, hgt, w7, cg7, p1, r1, p3, r3, il, ic, jl, jc, i7, i8]
      refine ACalls.mono (joins_calls pr m H6 prok) ?_
      rintro _ H8 ⟨rfl, e8⟩
      have U8 := U7.ext e8
      by_cases hj : joinR pr m
      · have hlo : loM m A = (A', (pr.1, pr.2.1, pr.2.2 + m.2.2)) := by rw [hA0]; unfold loM; simp [hj]
        have c8 := e8.cells c7
        have cg8 := e8.cells cg7
        have hg8 := e8 _ _ hg7
        have hgl8 := got_lt hg8
        have wm : IntKind.i64.wrap (pr.2.2 + m.2.2) = pr.2.2 + m.2.2 := by
          have h1 : 1 ≤ pr.1 ∧ 0 ≤ pr.2.1 ∧ 1 ≤ pr.2.2 ∧ pr.2.1 + pr.2.2 ≤ 65536 := prok
          have h2 : 1 ≤ m.1 ∧ 0 ≤ m.2.1 ∧ 1 ≤ m.2.2 ∧ m.2.1 + m.2.2 ≤ 65536 := hmo
          exact wi64 _ (by omega) (by omega)
        have U9 := U8
        rw [hlA] at U9
        have U9 := U9.many (by rw [hnd, hlA]) hg8 hCl7 (by rw [hCt7, hlA]) hbg7 (pr.2.2 + m.2.2)
        have gp8 : p ≠ g7 := fun e => U8.ld.2.2.2 0 n7 3 (by rw [e])
        have b9 := U9.ld.1
        have c9 := AH.cells_own b9
        try simp -implicitDefEqProofs (disch := (try simp only [sl]); try omega) only [sm,aSel,Qu,Qv,Qw,Qx,Qy,Qj,Qi,Qq,QC,Qz,bd,QF,look,aput,Qm,QI,abin,anil,Qb,Qc,QA,Qd,ty,↓reduceIte,Nat.reduceEqDiff,Nat.reduceAdd,Nat.reduceSub,Nat.reduceMul,Int.reduceLT,Int.reduceLE,Int.reduceNeg,Int.reduceToNat,reduceCtorEq,Nat.reduceBEq,Nat.reduceBNe,Qk,Qe,Value.cells,am,mm,keep, aint, c8, q06, w1, w7, cg8, p2, r2, p3, r3, i7, i8, wm, hg8, hgl8, decide_eq_true hj]
        try (refine hK_ _ _ ?_; clear hK_ K_; repeat first | refine QL ?_ | refine QM ?_)
        repeat first | refine Qo ?_ | refine Qn ?_
        refine awp_if true rfl (by first | (simp only [aeval_tmp, look, ↓reduceIte, Nat.reduceEqDiff]; try rfl) | rfl) (fun _ => ?_) (fun h => absurd h (by decide))
        iterate 1 ((repeat first | refine Qo ?_ | refine Qn ?_); (first | ((first | refine awp_region_drawK (id := 13) [(0, []), (1, []), (2, []), (3, []), (4, []), (5, []), (6, []), (7, []), (8, []), (9, []), (10, []), (11, []), (12, []), (13, []), (14, []), (15, []), (16, []), (17, []), (18, []), (19, []), (20, [])] mixed (by kernel_rfl) ?_ | refine QK (by kernel_rfl) ?_); intro K_ hK_; simp -implicitDefEqProofs (disch := (try simp only [sl]); try omega) only [sm,QJ,aSel,Qu,Qv,Qw,Qx,Qy,Qj,Qi,Qq,QC,Qz,bd,QF,look,aput,Qm,QI,abin,anil,Qb,Qc,QA,Qd,ty,↓reduceIte,Nat.reduceEqDiff,Nat.reduceAdd,Nat.reduceSub,Nat.reduceMul,Int.reduceLT,Int.reduceLE,Int.reduceNeg,Int.reduceToNat,reduceCtorEq,Nat.reduceBEq,Nat.reduceBNe,Qk,Qe,Value.cells,am,mm,keep, aint, c8, q06, w1, w7, cg8, p2, r2, p3, r3, i7, i8, wm, hg8, hgl8]; refine hK_ _ _ ?_; clear hK_ K_; repeat first | refine QL ?_ | refine QM ?_)))
        (repeat first | refine Qo ?_ | refine Qn ?_); refine QK (by kernel_rfl) ?_; intro K_ hK_; simp -implicitDefEqProofs (disch := (try simp only [sl]); try omega) only [sm,QJ,Qj,Qi,Qq,QC,Qz,bd,QF,look,aput,Qm,QI,abin,anil,Qc,QA,Qd,ty,↓reduceIte,Nat.reduceEqDiff,Nat.reduceAdd,Nat.reduceSub,Nat.reduceMul,Int.reduceLT,Int.reduceLE,Int.reduceNeg,Int.reduceToNat,reduceCtorEq,Nat.reduceBEq,Nat.reduceBNe,Qk,Qe,Value.cells,am,mm,keep, aint, c8, q06, w1, w7, cg8, p2, r2, p3, r3, i7, i8, wm, hg8, hgl8]
        obtain ⟨H9, hH9⟩ : ∃ H9, H9 = H8.set g7 (.own (C7.set (A'.length * 3 + 2) (.int .i64 (pr.2.2 + m.2.2)))) := ⟨_, rfl⟩
        rw [← hH9] at U9 b9 c9 ⊢
        have hl9 : (A' ++ (pr.1, pr.2.1, pr.2.2 + m.2.2) :: m :: t).length = A'.length + 2 + t.length := by rw [List.length_append, List.length_cons, List.length_cons]; omega
        refine ACalls.mono ((delR_calls _ (A' ++ (pr.1, pr.2.1, pr.2.2 + m.2.2) :: m :: t) A.length b H9 U9.ld.2.1 (Nat.le_trans hb U9.len) (by rw [hl9]; omega) (by rw [hl9]; omega)).len) ?_
        rintro wA HA ⟨⟨dA, rA, fA⟩, lA⟩
        have UB := U9.put dA rA fA lA
        have bA := rA _ _ U9.ld.2.2.2 b9
        have bAc := AH.cells_own bA
        have bAl := got_lt bA
        have hres : (A' ++ (pr.1, pr.2.1, pr.2.2 + m.2.2) :: m :: t).take A.length ++ (A' ++ (pr.1, pr.2.1, pr.2.2 + m.2.2) :: m :: t).drop (A.length + 1) = A' ++ (pr.1, pr.2.1, pr.2.2 + m.2.2) :: t := by rw [hAl]; exact take_drop_mid _ _ _ _
        rw [hres] at dA UB
        obtain ⟨gA, CA, hwA, -⟩ := dA.at (by rw [List.length_append, List.length_cons]; omega)
        obtain ⟨nA, hnA⟩ : ∃ nA, nA = (A' ++ (pr.1, pr.2.1, pr.2.2 + m.2.2) :: t).length := ⟨_, rfl⟩
        rw [← hnA] at hwA
        subst hwA
        have hsetA : ∀ v : Value, ([.slice (some ⟨g7, 0, none⟩) n7 3, .bool true] : List Value).set 0 v = [v, .bool true] := fun _ => rfl
        try simp -implicitDefEqProofs (disch := (try simp only [sl]); try omega) only [sm,QJ,Qj,Qi,Qq,QC,Qz,bd,QF,look,aput,Qm,QI,abin,anil,Qc,QA,Qd,ty,↓reduceIte,Nat.reduceEqDiff,Nat.reduceAdd,Nat.reduceSub,Nat.reduceMul,Int.reduceLT,Int.reduceLE,Int.reduceNeg,Int.reduceToNat,reduceCtorEq,Nat.reduceBEq,Nat.reduceBNe,Qk,Qe,Value.cells,am,mm,keep, aint, c9, q06, w1, w7, bA, bAc, bAl, hsetA]
        try (refine hK_ _ _ ?_; clear hK_ K_; repeat first | refine QL ?_ | refine QM ?_)
        iterate 1 ((repeat first | refine Qo ?_ | refine Qn ?_); (first | (refine QK (by kernel_rfl) ?_; intro K_ hK_; simp -implicitDefEqProofs (disch := (try simp only [sl]); try omega) only [sm,QJ,Qj,Qi,Qq,QC,bd,look,aput,ty,↓reduceIte,Nat.reduceEqDiff,Nat.reduceAdd,Nat.reduceSub,Nat.reduceMul,Int.reduceLT,Int.reduceLE,Int.reduceNeg,Int.reduceToNat,reduceCtorEq,Nat.reduceBEq,Nat.reduceBNe,Qk,Qe,Value.cells,am,mm,keep, aint, c9, q06, w1, w7, bA, bAc, bAl, hsetA]; refine hK_ _ _ ?_; clear hK_ K_; repeat first | refine QL ?_ | refine QM ?_)))
        first | refine awp_ret ?_ | skip
        show ∃ v, aresults Try.prog Try.f15 _ _ = some v ∧ _
        rw [aresults_1 (r := .tmp 4) (by kernel_rfl)]
        simp -implicitDefEqProofs (disch := (try simp only [sl]); try omega) only [aresult, Option.some.injEq, exists_eq_left', sm,Qj,Qi,Qq,QC,Qz,bd,QF,look,aput,QB,Qf,QA,ty,↓reduceIte,Nat.reduceEqDiff,Nat.reduceAdd,Nat.reduceSub,Nat.reduceMul,Int.reduceLT,Int.reduceLE,Int.reduceNeg,Int.reduceToNat,reduceCtorEq,Nat.reduceBEq,Nat.reduceBNe,Qk,Qe,Value.cells,am,mm,keep, aint, c9, q06, w1, w7, bA, bAc, bAl, hsetA]
        rw [hE, hL, hadd, hlo]
        exact ⟨rfl, _, UB⟩
      · have hlo : loM m A = (A, m) := by rw [hA0]; unfold loM; simp [hj]
        try simp -implicitDefEqProofs (disch := (try simp only [sl]); try omega) only [sm,aSel,Qu,Qv,Qw,Qx,Qy,Qj,Qi,Qq,QC,Qz,bd,QF,look,aput,Qm,QI,abin,anil,Qb,Qc,QA,Qd,ty,↓reduceIte,Nat.reduceEqDiff,Nat.reduceAdd,Nat.reduceSub,Nat.reduceMul,Int.reduceLT,Int.reduceLE,Int.reduceNeg,Int.reduceToNat,reduceCtorEq,Nat.reduceBEq,Nat.reduceBNe,Qk,Qe,Value.cells,am,mm,keep, aint, c7, q06, hgt, w7, decide_eq_false hj]
        try (refine hK_ _ _ ?_; clear hK_ K_; repeat first | refine QL ?_ | refine QM ?_)
        repeat first | refine Qo ?_ | refine Qn ?_
        refine awp_if false rfl (by first | (simp only [aeval_tmp, look, ↓reduceIte, Nat.reduceEqDiff]; try rfl) | rfl) (fun h => absurd h (by decide)) (fun _ => ?_)
        iterate 2 ((repeat first | refine Qo ?_ | refine Qn ?_); (first | (refine QK (by kernel_rfl) ?_; intro K_ hK_; simp -implicitDefEqProofs (disch := (try simp only [sl]); try omega) only [sm,QJ,Qj,Qi,Qq,QC,bd,look,aput,ty,↓reduceIte,Nat.reduceEqDiff,Nat.reduceAdd,Nat.reduceSub,Nat.reduceMul,Int.reduceLT,Int.reduceLE,Int.reduceNeg,Int.reduceToNat,reduceCtorEq,Nat.reduceBEq,Nat.reduceBNe,Qk,Qe,Value.cells,am,mm,keep, aint, c7, q06, hgt, w7]; refine hK_ _ _ ?_; clear hK_ K_; repeat first | refine QL ?_ | refine QM ?_) | (refine awp_skip ?_; repeat first | refine QL ?_ | refine QM ?_)))
        first | refine awp_ret ?_ | skip
        show ∃ v, aresults Try.prog Try.f15 _ _ = some v ∧ _
        rw [aresults_1 (r := .tmp 4) (by kernel_rfl)]
        simp -implicitDefEqProofs (disch := (try simp only [sl]); try omega) only [aresult, Option.some.injEq, exists_eq_left', sm,Qj,Qi,Qq,QC,Qz,bd,QF,look,aput,QB,Qf,QA,ty,↓reduceIte,Nat.reduceEqDiff,Nat.reduceAdd,Nat.reduceSub,Nat.reduceMul,Int.reduceLT,Int.reduceLE,Int.reduceNeg,Int.reduceToNat,reduceCtorEq,Nat.reduceBEq,Nat.reduceBNe,Qk,Qe,Value.cells,am,mm,keep, aint, c7, q06, hgt, w7]
        have U9 : Upd b p w H (.slice (some ⟨g7, 0, none⟩) n7 3) (adL L u) H8 := by
          rw [hL, hadd, hlo]
          exact U8
        exact ⟨by rw [hE], _, U9⟩
  | cons r B' =>
    have hBl : B'.length + 1 + A.length ≤ 500 := by simp at hABl; omega
    have hlt : ((A.length + 1 : Nat) : Int) < (n : Int) := by simp at hn1; omega
    have rok := hBok r (by simp)
    have hlA1 : (A ++ [x1R u]).length = A.length + 1 := by simp
    have hLs : A ++ x1R u :: r :: B' = (A ++ [x1R u]) ++ r :: B' := by simp
    obtain ⟨s1, s2, s3⟩ := at_mid (n := n) (A := A ++ [x1R u]) (x := r) (B := B') (by rw [hn, hLs]) (by rw [hCt, hLs]) hCl
    rw [hlA1] at s1 s2 s3
    have rl := ruc_length r
    have rc := ruc_cellv r
    have i1 : A.length + 1 < n := by simp at hn1; omega
    (repeat first | refine Qo ?_ | refine Qn ?_); refine awp_region_drawK (id := 9) [(0, []), (1, []), (2, []), (3, []), (4, []), (5, []), (6, []), (7, []), (8, []), (9, []), (10, []), (11, []), (12, []), (13, []), (14, []), (15, []), (16, []), (17, []), (18, []), (19, []), (20, []), (21, []), (22, []), (23, []), (24, []), (25, [])] mixed (by kernel_rfl) ?_; intro K_ hK_; simp -implicitDefEqProofs (disch := (try simp only [sl]); try omega) only [sm,aSel,Qu,Qv,Qw,Qx,Qy,Qj,Qi,Qq,QC,Qz,bd,QF,look,aput,Qm,QI,abin,anil,Qb,Qc,QA,Qd,ty,↓reduceIte,Nat.reduceEqDiff,Nat.reduceAdd,Nat.reduceSub,Nat.reduceMul,Int.reduceLT,Int.reduceLE,Int.reduceNeg,Int.reduceToNat,reduceCtorEq,Nat.reduceBEq,Nat.reduceBNe,Qk,Qe,Value.cells,am,mm,keep, aint, c6, q06, w1, hlt, cg6, m1, s1, m3, s3, x1l, x1c, rl, rc, i0, i1]
    refine ACalls.mono (joins_calls (x1R u) r H6 hx1ok) ?_
    rintro _ H7 ⟨rfl, e7⟩
    have U6' := U6.ext e7
    by_cases hj : joinR (x1R u) r
    · have hhi : hiM u (r :: B') = ((u.1, u.2, 1 + r.2.2), B') := if_pos hj
      have c7' := e7.cells c6
      have cg7' := e7.cells cg6
      have hg7' := e7 _ _ hg
      have hgl7' := got_lt hg7'
      have rok' : 1 ≤ r.1 ∧ 0 ≤ r.2.1 ∧ 1 ≤ r.2.2 ∧ r.2.1 + r.2.2 ≤ 65536 := rok
      have hj' : u.1 = r.1 ∧ u.2 + 1 = r.2.1 := hj
      have wm : IntKind.i64.wrap (1 + r.2.2) = 1 + r.2.2 := wi64 _ (by omega) (by omega)
      have w2 : IntKind.i64.wrap ((A.length : Int) + 2) = ((A.length + 1 + 1 : Nat) : Int) := by rw [wi64 _ (by omega) (by omega)]; omega
      have U8 := U6'.many hn hg7' hCl hCt hbg (1 + r.2.2)
      rw [show ((x1R u).1, (x1R u).2.1, 1 + r.2.2) = (u.1, u.2, 1 + r.2.2) from rfl] at U8
      obtain ⟨m, hm⟩ : ∃ m : Rn, m = (u.1, u.2, 1 + r.2.2) := ⟨_, rfl⟩
      rw [← hm] at U8 hhi
      have b8 := U8.ld.1
      have c8 := AH.cells_own b8
      have gp8 : p ≠ g0 := fun e => U6'.ld.2.2.2 0 n 3 (by rw [e])
      try simp -implicitDefEqProofs (disch := (try simp only [sl]); try omega) only [sm,aSel,Qu,Qv,Qw,Qx,Qy,Qj,Qi,Qq,QC,Qz,bd,QF,look,aput,Qm,QI,abin,anil,Qb,Qc,QA,Qd,ty,↓reduceIte,Nat.reduceEqDiff,Nat.reduceAdd,Nat.reduceSub,Nat.reduceMul,Int.reduceLT,Int.reduceLE,Int.reduceNeg,Int.reduceToNat,reduceCtorEq,Nat.reduceBEq,Nat.reduceBNe,Qk,Qe,Value.cells,am,mm,keep, aint, c7', q06, w1, w2, cg7', m2, s2, m3, s3, i0, i1, wm, hg7', hgl7', decide_eq_true hj]
      try (refine hK_ _ _ ?_; clear hK_ K_; repeat first | refine QL ?_ | refine QM ?_)
      repeat first | refine Qo ?_ | refine Qn ?_
      refine awp_if true rfl (by first | (simp only [aeval_tmp, look, ↓reduceIte, Nat.reduceEqDiff]; try rfl) | rfl) (fun _ => ?_) (fun h => absurd h (by decide))
      iterate 1 ((repeat first | refine Qo ?_ | refine Qn ?_); (first | ((first | refine awp_region_drawK (id := 10) [(0, []), (1, []), (2, []), (3, []), (4, []), (5, []), (6, []), (7, []), (8, []), (9, []), (10, []), (11, []), (12, []), (13, []), (14, []), (15, []), (16, []), (17, []), (18, []), (19, []), (20, [])] mixed (by kernel_rfl) ?_ | refine QK (by kernel_rfl) ?_); intro K_ hK_; simp -implicitDefEqProofs (disch := (try simp only [sl]); try omega) only [sm,QJ,aSel,Qu,Qv,Qw,Qx,Qy,Qj,Qi,Qq,QC,Qz,bd,QF,look,aput,Qm,QI,abin,anil,Qb,Qc,QA,Qd,ty,↓reduceIte,Nat.reduceEqDiff,Nat.reduceAdd,Nat.reduceSub,Nat.reduceMul,Int.reduceLT,Int.reduceLE,Int.reduceNeg,Int.reduceToNat,reduceCtorEq,Nat.reduceBEq,Nat.reduceBNe,Qk,Qe,Value.cells,am,mm,keep, aint, c7', q06, w1, w2, cg7', m2, s2, m3, s3, i0, i1, wm, hg7', hgl7']; refine hK_ _ _ ?_; clear hK_ K_; repeat first | refine QL ?_ | refine QM ?_)))
      (repeat first | refine Qo ?_ | refine Qn ?_); refine QK (by kernel_rfl) ?_; intro K_ hK_; simp -implicitDefEqProofs (disch := (try simp only [sl]); try omega) only [sm,QJ,Qj,Qi,Qq,QC,Qz,bd,QF,look,aput,Qm,QI,abin,anil,Qc,QA,Qd,ty,↓reduceIte,Nat.reduceEqDiff,Nat.reduceAdd,Nat.reduceSub,Nat.reduceMul,Int.reduceLT,Int.reduceLE,Int.reduceNeg,Int.reduceToNat,reduceCtorEq,Nat.reduceBEq,Nat.reduceBNe,Qk,Qe,Value.cells,am,mm,keep, aint, c7', q06, w1, w2, cg7', m2, s2, m3, s3, i0, i1, wm, hg7', hgl7']
      obtain ⟨H8, hH8⟩ : ∃ H8, H8 = H7.set g0 (.own (C.set (A.length * 3 + 2) (.int .i64 (1 + r.2.2)))) := ⟨_, rfl⟩
      rw [← hH8] at U8 b8 c8 ⊢
      have hl9 : (A ++ m :: r :: B').length = A.length + 2 + B'.length := by rw [List.length_append, List.length_cons, List.length_cons]; omega
      refine ACalls.mono ((delR_calls _ (A ++ m :: r :: B') (A.length + 1) b H8 U8.ld.2.1 (Nat.le_trans hb U8.len) (by rw [hl9]; omega) (by rw [hl9]; omega)).len) ?_
      rintro wA HA ⟨⟨dA, rA, fA⟩, lA⟩
      have U7 := U8.put dA rA fA lA
      have bA := rA _ _ U8.ld.2.2.2 b8
      have bAc := AH.cells_own bA
      have bAl := got_lt bA
      rw [take_drop_mid] at dA U7
      obtain ⟨gA, CA, hwA, -⟩ := dA.at (by rw [List.length_append, List.length_cons]; omega)
      obtain ⟨nA, hnA⟩ : ∃ nA, nA = (A ++ m :: B').length := ⟨_, rfl⟩
      rw [← hnA] at hwA
      subst hwA
      have hsetA : ∀ v : Value, ([.slice (some ⟨g0, 0, none⟩) n 3, .bool true] : List Value).set 0 v = [v, .bool true] := fun _ => rfl
      try simp -implicitDefEqProofs (disch := (try simp only [sl]); try omega) only [sm,QJ,Qj,Qi,Qq,QC,Qz,bd,QF,look,aput,Qm,QI,abin,anil,Qc,QA,Qd,ty,↓reduceIte,Nat.reduceEqDiff,Nat.reduceAdd,Nat.reduceSub,Nat.reduceMul,Int.reduceLT,Int.reduceLE,Int.reduceNeg,Int.reduceToNat,reduceCtorEq,Nat.reduceBEq,Nat.reduceBNe,Qk,Qe,Value.cells,am,mm,keep, aint, c8, q06, w1, bA, bAc, bAl, hsetA]
      try (refine hK_ _ _ ?_; clear hK_ K_; repeat first | refine QL ?_ | refine QM ?_)
      obtain ⟨t, ht⟩ : ∃ t, t = B' := ⟨_, rfl⟩
      have hmo : okR m := by
        rw [hm]
        have := hok.1; have := hok.2.1
        show 1 ≤ u.1 ∧ 0 ≤ u.2 ∧ 1 ≤ 1 + r.2.2 ∧ u.2 + (1 + r.2.2) ≤ 65536
        omega
      rw [hhi] at hadd
      rw [← ht] at hadd U7
      have htl : A.length + t.length ≤ 500 := by rw [ht]; omega
      obtain ⟨W7, hW7⟩ : ∃ W7, W7 = Value.slice (some ⟨gA, 0, none⟩) nA 3 := ⟨_, rfl⟩
      rw [← hW7] at U7 ⊢
      obtain ⟨HB, hHB⟩ : ∃ HB, HB = HA.set p (.own [W7, .bool true]) := ⟨_, rfl⟩
      rw [← hHB] at U7 ⊢
      clear hHB
      clear m1 m2 m3 hCl hCt hg cg6 c6
      obtain ⟨g7, C7, rfl, hg7, hCl7, hCt7, hbg7⟩ := U7.ld.2.1.at (by rw [List.length_append, List.length_cons]; omega)
      have hp7 := U7.ld.1
      have c7 := AH.cells_own hp7
      have cg7 := AH.cells_own hg7
      have hn7 : (A ++ m :: t).length = A.length + 1 + t.length := by rw [List.length_append, List.length_cons]; omega
      obtain ⟨n7, hnd⟩ : ∃ n, n = (A ++ m :: t).length := ⟨_, rfl⟩
      rw [← hnd] at hCl7 hCt7 hn7 U7 hp7 c7
      rcases List.eq_nil_or_concat A with hA0 | ⟨A', pr, hA0⟩
      · have hgt : ¬ ((A.length : Int) > 0) := by rw [hA0]; simp
        (repeat first | refine Qo ?_ | refine Qn ?_); refine awp_region_drawK (id := 12) [(0, []), (1, []), (2, []), (3, []), (4, []), (5, []), (6, []), (7, []), (8, []), (9, []), (10, []), (11, []), (12, []), (13, []), (14, []), (15, []), (16, []), (17, []), (18, []), (19, [])] mixed (by kernel_rfl) ?_; intro K_ hK_; simp -implicitDefEqProofs (disch := (try simp only [sl]); try omega) only [sm,aSel,Qu,Qv,Qw,Qx,Qy,Qj,Qi,Qq,QC,Qz,bd,QF,look,aput,Qm,QI,abin,anil,Qb,Qc,QA,Qd,ty,↓reduceIte,Nat.reduceEqDiff,Nat.reduceAdd,Nat.reduceSub,Nat.reduceMul,Int.reduceLT,Int.reduceLE,Int.reduceNeg,Int.reduceToNat,reduceCtorEq,Nat.reduceBEq,Nat.reduceBNe,Qk,Qe,Value.cells,am,mm,keep, aint, c7, q06, hgt]
        try simp -implicitDefEqProofs (disch := (try simp only [sl]); try omega) only [sm,aSel,Qu,Qv,Qw,Qx,Qy,Qj,Qi,Qq,QC,Qz,bd,QF,look,aput,Qm,QI,abin,anil,Qb,Qc,QA,Qd,ty,↓reduceIte,Nat.reduceEqDiff,Nat.reduceAdd,Nat.reduceSub,Nat.reduceMul,Int.reduceLT,Int.reduceLE,Int.reduceNeg,Int.reduceToNat,reduceCtorEq,Nat.reduceBEq,Nat.reduceBNe,Qk,Qe,Value.cells,am,mm,keep, aint, c7, q06, hgt]
        try (refine hK_ _ _ ?_; clear hK_ K_; repeat first | refine QL ?_ | refine QM ?_)
        repeat first | refine Qo ?_ | refine Qn ?_
        refine awp_if false rfl (by first | (simp only [aeval_tmp, look, ↓reduceIte, Nat.reduceEqDiff]; try rfl) | rfl) (fun h => absurd h (by decide)) (fun _ => ?_)
        iterate 2 ((repeat first | refine Qo ?_ | refine Qn ?_); (first | (refine QK (by kernel_rfl) ?_; intro K_ hK_; simp -implicitDefEqProofs (disch := (try simp only [sl]); try omega) only [sm,QJ,Qj,Qi,Qq,QC,bd,look,aput,ty,↓reduceIte,Nat.reduceEqDiff,Nat.reduceAdd,Nat.reduceSub,Nat.reduceMul,Int.reduceLT,Int.reduceLE,Int.reduceNeg,Int.reduceToNat,reduceCtorEq,Nat.reduceBEq,Nat.reduceBNe,Qk,Qe,Value.cells,am,mm,keep, aint, c7, q06, hgt]; refine hK_ _ _ ?_; clear hK_ K_; repeat first | refine QL ?_ | refine QM ?_) | (refine awp_skip ?_; repeat first | refine QL ?_ | refine QM ?_)))
        first | refine awp_ret ?_ | skip
        show ∃ v, aresults Try.prog Try.f15 _ _ = some v ∧ _
        rw [aresults_1 (r := .tmp 4) (by kernel_rfl)]
        simp -implicitDefEqProofs (disch := (try simp only [sl]); try omega) only [aresult, Option.some.injEq, exists_eq_left', sm,Qj,Qi,Qq,QC,Qz,bd,QF,look,aput,QB,Qf,QA,ty,↓reduceIte,Nat.reduceEqDiff,Nat.reduceAdd,Nat.reduceSub,Nat.reduceMul,Int.reduceLT,Int.reduceLE,Int.reduceNeg,Int.reduceToNat,reduceCtorEq,Nat.reduceBEq,Nat.reduceBNe,Qk,Qe,Value.cells,am,mm,keep, aint, c7, q06, hgt]
        have U8 : Upd b p w H (.slice (some ⟨g7, 0, none⟩) n7 3) (adL L u) HB := by
          rw [hL, hadd, hA0]
          rw [hA0] at U7
          exact U7
        exact ⟨by rw [hE], _, U8⟩
      · rw [List.concat_eq_append] at hA0
        have hAl : A.length = A'.length + 1 := by rw [hA0]; simp
        have hgt : ((A.length : Int) > 0) := by omega
        have w7 : IntKind.i64.wrap ((A.length : Int) - 1) = ((A'.length : Nat) : Int) := by rw [wi64 _ (by omega) (by omega)]; omega
        have hlA : A ++ m :: t = A' ++ pr :: (m :: t) := by rw [hA0, List.append_assoc]; rfl
        obtain ⟨p1, p2, p3⟩ := at_mid (n := n7) (A := A') (x := pr) (B := m :: t) (by rw [hnd, hlA]) (by rw [hCt7, hlA]) hCl7
        obtain ⟨r1, r2, r3⟩ := at_mid (n := n7) (A := A) (x := m) (B := t) hnd hCt7 hCl7
        have prok : okR pr := hAok pr (by rw [hA0]; simp)
        have il := ruc_length pr
        have ic := ruc_cellv pr
        have jl := ruc_length m
        have jc := ruc_cellv m
        have i7 : A.length < n7 := by omega
        have i8 : A'.length < n7 := by omega
        (repeat first | refine Qo ?_ | refine Qn ?_); refine awp_region_drawK (id := 12) [(0, []), (1, []), (2, []), (3, []), (4, []), (5, []), (6, []), (7, []), (8, []), (9, []), (10, []), (11, []), (12, []), (13, []), (14, []), (15, []), (16, []), (17, []), (18, []), (19, [])] mixed (by kernel_rfl) ?_; intro K_ hK_; simp -implicitDefEqProofs (disch := (try simp only [sl]); try omega) only [sm,aSel,Qu,Qv,Qw,Qx,Qy,Qj,Qi,Qq,QC,Qz,bd,QF,look,aput,Qm,QI,abin,anil,Qb,Qc,QA,Qd,ty,↓reduceIte,Nat.reduceEqDiff,Nat.reduceAdd,Nat.reduceSub,Nat.reduceMul,Int.reduceLT,Int.reduceLE,Int.reduceNeg,Int.reduceToNat,reduceCtorEq,Nat.reduceBEq,Nat.reduceBNe,Qk,Qe,Value.cells,am,mm,keep, aint, c7, q06, hgt, w7, cg7, p1, r1, p3, r3, il, ic, jl, jc, i7, i8]
        refine ACalls.mono (joins_calls pr m HB prok) ?_
        rintro _ H8 ⟨rfl, e8⟩
        have U8 := U7.ext e8
        by_cases hj : joinR pr m
        · have hlo : loM m A = (A', (pr.1, pr.2.1, pr.2.2 + m.2.2)) := by rw [hA0]; unfold loM; simp [hj]
          have c8 := e8.cells c7
          have cg8 := e8.cells cg7
          have hg8 := e8 _ _ hg7
          have hgl8 := got_lt hg8
          have wm : IntKind.i64.wrap (pr.2.2 + m.2.2) = pr.2.2 + m.2.2 := by
            have h1 : 1 ≤ pr.1 ∧ 0 ≤ pr.2.1 ∧ 1 ≤ pr.2.2 ∧ pr.2.1 + pr.2.2 ≤ 65536 := prok
            have h2 : 1 ≤ m.1 ∧ 0 ≤ m.2.1 ∧ 1 ≤ m.2.2 ∧ m.2.1 + m.2.2 ≤ 65536 := hmo
            exact wi64 _ (by omega) (by omega)
          have U9 := U8
          rw [hlA] at U9
          have U9 := U9.many (by rw [hnd, hlA]) hg8 hCl7 (by rw [hCt7, hlA]) hbg7 (pr.2.2 + m.2.2)
          have gp8 : p ≠ g7 := fun e => U8.ld.2.2.2 0 n7 3 (by rw [e])
          have b9 := U9.ld.1
          have c9 := AH.cells_own b9
          try simp -implicitDefEqProofs (disch := (try simp only [sl]); try omega) only [sm,aSel,Qu,Qv,Qw,Qx,Qy,Qj,Qi,Qq,QC,Qz,bd,QF,look,aput,Qm,QI,abin,anil,Qb,Qc,QA,Qd,ty,↓reduceIte,Nat.reduceEqDiff,Nat.reduceAdd,Nat.reduceSub,Nat.reduceMul,Int.reduceLT,Int.reduceLE,Int.reduceNeg,Int.reduceToNat,reduceCtorEq,Nat.reduceBEq,Nat.reduceBNe,Qk,Qe,Value.cells,am,mm,keep, aint, c8, q06, w1, w7, cg8, p2, r2, p3, r3, i7, i8, wm, hg8, hgl8, decide_eq_true hj]
          try (refine hK_ _ _ ?_; clear hK_ K_; repeat first | refine QL ?_ | refine QM ?_)
          repeat first | refine Qo ?_ | refine Qn ?_
          refine awp_if true rfl (by first | (simp only [aeval_tmp, look, ↓reduceIte, Nat.reduceEqDiff]; try rfl) | rfl) (fun _ => ?_) (fun h => absurd h (by decide))
          iterate 1 ((repeat first | refine Qo ?_ | refine Qn ?_); (first | ((first | refine awp_region_drawK (id := 13) [(0, []), (1, []), (2, []), (3, []), (4, []), (5, []), (6, []), (7, []), (8, []), (9, []), (10, []), (11, []), (12, []), (13, []), (14, []), (15, []), (16, []), (17, []), (18, []), (19, []), (20, [])] mixed (by kernel_rfl) ?_ | refine QK (by kernel_rfl) ?_); intro K_ hK_; simp -implicitDefEqProofs (disch := (try simp only [sl]); try omega) only [sm,QJ,aSel,Qu,Qv,Qw,Qx,Qy,Qj,Qi,Qq,QC,Qz,bd,QF,look,aput,Qm,QI,abin,anil,Qb,Qc,QA,Qd,ty,↓reduceIte,Nat.reduceEqDiff,Nat.reduceAdd,Nat.reduceSub,Nat.reduceMul,Int.reduceLT,Int.reduceLE,Int.reduceNeg,Int.reduceToNat,reduceCtorEq,Nat.reduceBEq,Nat.reduceBNe,Qk,Qe,Value.cells,am,mm,keep, aint, c8, q06, w1, w7, cg8, p2, r2, p3, r3, i7, i8, wm, hg8, hgl8]; refine hK_ _ _ ?_; clear hK_ K_; repeat first | refine QL ?_ | refine QM ?_)))
          (repeat first | refine Qo ?_ | refine Qn ?_); refine QK (by kernel_rfl) ?_; intro K_ hK_; simp -implicitDefEqProofs (disch := (try simp only [sl]); try omega) only [sm,QJ,Qj,Qi,Qq,QC,Qz,bd,QF,look,aput,Qm,QI,abin,anil,Qc,QA,Qd,ty,↓reduceIte,Nat.reduceEqDiff,Nat.reduceAdd,Nat.reduceSub,Nat.reduceMul,Int.reduceLT,Int.reduceLE,Int.reduceNeg,Int.reduceToNat,reduceCtorEq,Nat.reduceBEq,Nat.reduceBNe,Qk,Qe,Value.cells,am,mm,keep, aint, c8, q06, w1, w7, cg8, p2, r2, p3, r3, i7, i8, wm, hg8, hgl8]
          obtain ⟨H9, hH9⟩ : ∃ H9, H9 = H8.set g7 (.own (C7.set (A'.length * 3 + 2) (.int .i64 (pr.2.2 + m.2.2)))) := ⟨_, rfl⟩
          rw [← hH9] at U9 b9 c9 ⊢
          have hl9 : (A' ++ (pr.1, pr.2.1, pr.2.2 + m.2.2) :: m :: t).length = A'.length + 2 + t.length := by rw [List.length_append, List.length_cons, List.length_cons]; omega
          refine ACalls.mono ((delR_calls _ (A' ++ (pr.1, pr.2.1, pr.2.2 + m.2.2) :: m :: t) A.length b H9 U9.ld.2.1 (Nat.le_trans hb U9.len) (by rw [hl9]; omega) (by rw [hl9]; omega)).len) ?_
          rintro wA HA ⟨⟨dA, rA, fA⟩, lA⟩
          have UB := U9.put dA rA fA lA
          have bA := rA _ _ U9.ld.2.2.2 b9
          have bAc := AH.cells_own bA
          have bAl := got_lt bA
          have hres : (A' ++ (pr.1, pr.2.1, pr.2.2 + m.2.2) :: m :: t).take A.length ++ (A' ++ (pr.1, pr.2.1, pr.2.2 + m.2.2) :: m :: t).drop (A.length + 1) = A' ++ (pr.1, pr.2.1, pr.2.2 + m.2.2) :: t := by rw [hAl]; exact take_drop_mid _ _ _ _
          rw [hres] at dA UB
          obtain ⟨gA, CA, hwA, -⟩ := dA.at (by rw [List.length_append, List.length_cons]; omega)
          obtain ⟨nA, hnA⟩ : ∃ nA, nA = (A' ++ (pr.1, pr.2.1, pr.2.2 + m.2.2) :: t).length := ⟨_, rfl⟩
          rw [← hnA] at hwA
          subst hwA
          have hsetA : ∀ v : Value, ([.slice (some ⟨g7, 0, none⟩) n7 3, .bool true] : List Value).set 0 v = [v, .bool true] := fun _ => rfl
          try simp -implicitDefEqProofs (disch := (try simp only [sl]); try omega) only [sm,QJ,Qj,Qi,Qq,QC,Qz,bd,QF,look,aput,Qm,QI,abin,anil,Qc,QA,Qd,ty,↓reduceIte,Nat.reduceEqDiff,Nat.reduceAdd,Nat.reduceSub,Nat.reduceMul,Int.reduceLT,Int.reduceLE,Int.reduceNeg,Int.reduceToNat,reduceCtorEq,Nat.reduceBEq,Nat.reduceBNe,Qk,Qe,Value.cells,am,mm,keep, aint, c9, q06, w1, w7, bA, bAc, bAl, hsetA]
          try (refine hK_ _ _ ?_; clear hK_ K_; repeat first | refine QL ?_ | refine QM ?_)
          iterate 1 ((repeat first | refine Qo ?_ | refine Qn ?_); (first | (refine QK (by kernel_rfl) ?_; intro K_ hK_; simp -implicitDefEqProofs (disch := (try simp only [sl]); try omega) only [sm,QJ,Qj,Qi,Qq,QC,bd,look,aput,ty,↓reduceIte,Nat.reduceEqDiff,Nat.reduceAdd,Nat.reduceSub,Nat.reduceMul,Int.reduceLT,Int.reduceLE,Int.reduceNeg,Int.reduceToNat,reduceCtorEq,Nat.reduceBEq,Nat.reduceBNe,Qk,Qe,Value.cells,am,mm,keep, aint, c9, q06, w1, w7, bA, bAc, bAl, hsetA]; refine hK_ _ _ ?_; clear hK_ K_; repeat first | refine QL ?_ | refine QM ?_)))
          first | refine awp_ret ?_ | skip
          show ∃ v, aresults Try.prog Try.f15 _ _ = some v ∧ _
          rw [aresults_1 (r := .tmp 4) (by kernel_rfl)]
          simp -implicitDefEqProofs (disch := (try simp only [sl]); try omega) only [aresult, Option.some.injEq, exists_eq_left', sm,Qj,Qi,Qq,QC,Qz,bd,QF,look,aput,QB,Qf,QA,ty,↓reduceIte,Nat.reduceEqDiff,Nat.reduceAdd,Nat.reduceSub,Nat.reduceMul,Int.reduceLT,Int.reduceLE,Int.reduceNeg,Int.reduceToNat,reduceCtorEq,Nat.reduceBEq,Nat.reduceBNe,Qk,Qe,Value.cells,am,mm,keep, aint, c9, q06, w1, w7, bA, bAc, bAl, hsetA]
          rw [hE, hL, hadd, hlo]
          exact ⟨rfl, _, UB⟩
        · have hlo : loM m A = (A, m) := by rw [hA0]; unfold loM; simp [hj]
          try simp -implicitDefEqProofs (disch := (try simp only [sl]); try omega) only [sm,aSel,Qu,Qv,Qw,Qx,Qy,Qj,Qi,Qq,QC,Qz,bd,QF,look,aput,Qm,QI,abin,anil,Qb,Qc,QA,Qd,ty,↓reduceIte,Nat.reduceEqDiff,Nat.reduceAdd,Nat.reduceSub,Nat.reduceMul,Int.reduceLT,Int.reduceLE,Int.reduceNeg,Int.reduceToNat,reduceCtorEq,Nat.reduceBEq,Nat.reduceBNe,Qk,Qe,Value.cells,am,mm,keep, aint, c7, q06, hgt, w7, decide_eq_false hj]
          try (refine hK_ _ _ ?_; clear hK_ K_; repeat first | refine QL ?_ | refine QM ?_)
          repeat first | refine Qo ?_ | refine Qn ?_
          refine awp_if false rfl (by first | (simp only [aeval_tmp, look, ↓reduceIte, Nat.reduceEqDiff]; try rfl) | rfl) (fun h => absurd h (by decide)) (fun _ => ?_)
          iterate 2 ((repeat first | refine Qo ?_ | refine Qn ?_); (first | (refine QK (by kernel_rfl) ?_; intro K_ hK_; simp -implicitDefEqProofs (disch := (try simp only [sl]); try omega) only [sm,QJ,Qj,Qi,Qq,QC,bd,look,aput,ty,↓reduceIte,Nat.reduceEqDiff,Nat.reduceAdd,Nat.reduceSub,Nat.reduceMul,Int.reduceLT,Int.reduceLE,Int.reduceNeg,Int.reduceToNat,reduceCtorEq,Nat.reduceBEq,Nat.reduceBNe,Qk,Qe,Value.cells,am,mm,keep, aint, c7, q06, hgt, w7]; refine hK_ _ _ ?_; clear hK_ K_; repeat first | refine QL ?_ | refine QM ?_) | (refine awp_skip ?_; repeat first | refine QL ?_ | refine QM ?_)))
          first | refine awp_ret ?_ | skip
          show ∃ v, aresults Try.prog Try.f15 _ _ = some v ∧ _
          rw [aresults_1 (r := .tmp 4) (by kernel_rfl)]
          simp -implicitDefEqProofs (disch := (try simp only [sl]); try omega) only [aresult, Option.some.injEq, exists_eq_left', sm,Qj,Qi,Qq,QC,Qz,bd,QF,look,aput,QB,Qf,QA,ty,↓reduceIte,Nat.reduceEqDiff,Nat.reduceAdd,Nat.reduceSub,Nat.reduceMul,Int.reduceLT,Int.reduceLE,Int.reduceNeg,Int.reduceToNat,reduceCtorEq,Nat.reduceBEq,Nat.reduceBNe,Qk,Qe,Value.cells,am,mm,keep, aint, c7, q06, hgt, w7]
          have U9 : Upd b p w H (.slice (some ⟨g7, 0, none⟩) n7 3) (adL L u) H8 := by
            rw [hL, hadd, hlo]
            exact U8
          exact ⟨by rw [hE], _, U9⟩
    · have hhi : hiM u (r :: B') = (x1R u, r :: B') := if_neg hj
      have U7 := U6'
      obtain ⟨m, hm⟩ : ∃ m, m = x1R u := ⟨_, rfl⟩
      obtain ⟨t, ht⟩ : ∃ t, t = r :: B' := ⟨_, rfl⟩
      have hmo : okR m := by rw [hm]; exact hx1ok
      rw [hhi] at hadd
      rw [← hm, ← ht] at hadd U7
      have htl : A.length + t.length ≤ 500 := by rw [ht]; simp; omega
      obtain ⟨W7, hW7⟩ : ∃ W7, W7 = Value.slice (some ⟨g0, 0, none⟩) n 3 := ⟨_, rfl⟩
      rw [← hW7] at U7
      have c7' := e7.cells c6
      try simp -implicitDefEqProofs (disch := (try simp only [sl]); try omega) only [sm,aSel,Qu,Qv,Qw,Qx,Qy,Qj,Qi,Qq,QC,Qz,bd,QF,look,aput,Qm,QI,abin,anil,Qb,Qc,QA,Qd,ty,↓reduceIte,Nat.reduceEqDiff,Nat.reduceAdd,Nat.reduceSub,Nat.reduceMul,Int.reduceLT,Int.reduceLE,Int.reduceNeg,Int.reduceToNat,reduceCtorEq,Nat.reduceBEq,Nat.reduceBNe,Qk,Qe,Value.cells,am,mm,keep, aint, c7', q06, w1, decide_eq_false hj]
      try (refine hK_ _ _ ?_; clear hK_ K_; repeat first | refine QL ?_ | refine QM ?_)
      repeat first | refine Qo ?_ | refine Qn ?_
      refine awp_if false rfl (by first | (simp only [aeval_tmp, look, ↓reduceIte, Nat.reduceEqDiff]; try rfl) | rfl) (fun h => absurd h (by decide)) (fun _ => ?_)
      iterate 1 ((repeat first | refine Qo ?_ | refine Qn ?_); (first | (refine awp_skip ?_; repeat first | refine QL ?_ | refine QM ?_)))
      clear m1 m2 m3 hCl hCt hg cg6 c6
      obtain ⟨g7, C7, rfl, hg7, hCl7, hCt7, hbg7⟩ := U7.ld.2.1.at (by rw [List.length_append, List.length_cons]; omega)
      have hp7 := U7.ld.1
      have c7 := AH.cells_own hp7
      have cg7 := AH.cells_own hg7
      have hn7 : (A ++ m :: t).length = A.length + 1 + t.length := by rw [List.length_append, List.length_cons]; omega
      obtain ⟨n7, hnd⟩ : ∃ n, n = (A ++ m :: t).length := ⟨_, rfl⟩
      rw [← hnd] at hCl7 hCt7 hn7 U7 hp7 c7
      rcases List.eq_nil_or_concat A with hA0 | ⟨A', pr, hA0⟩
      · have hgt : ¬ ((A.length : Int) > 0) := by rw [hA0]; simp
        (repeat first | refine Qo ?_ | refine Qn ?_); refine awp_region_drawK (id := 12) [(0, []), (1, []), (2, []), (3, []), (4, []), (5, []), (6, []), (7, []), (8, []), (9, []), (10, []), (11, []), (12, []), (13, []), (14, []), (15, []), (16, []), (17, []), (18, []), (19, [])] mixed (by kernel_rfl) ?_; intro K_ hK_; simp -implicitDefEqProofs (disch := (try simp only [sl]); try omega) only [sm,aSel,Qu,Qv,Qw,Qx,Qy,Qj,Qi,Qq,QC,Qz,bd,QF,look,aput,Qm,QI,abin,anil,Qb,Qc,QA,Qd,ty,↓reduceIte,Nat.reduceEqDiff,Nat.reduceAdd,Nat.reduceSub,Nat.reduceMul,Int.reduceLT,Int.reduceLE,Int.reduceNeg,Int.reduceToNat,reduceCtorEq,Nat.reduceBEq,Nat.reduceBNe,Qk,Qe,Value.cells,am,mm,keep, aint, c7, q06, hgt]
        try simp -implicitDefEqProofs (disch := (try simp only [sl]); try omega) only [sm,aSel,Qu,Qv,Qw,Qx,Qy,Qj,Qi,Qq,QC,Qz,bd,QF,look,aput,Qm,QI,abin,anil,Qb,Qc,QA,Qd,ty,↓reduceIte,Nat.reduceEqDiff,Nat.reduceAdd,Nat.reduceSub,Nat.reduceMul,Int.reduceLT,Int.reduceLE,Int.reduceNeg,Int.reduceToNat,reduceCtorEq,Nat.reduceBEq,Nat.reduceBNe,Qk,Qe,Value.cells,am,mm,keep, aint, c7, q06, hgt]
        try (refine hK_ _ _ ?_; clear hK_ K_; repeat first | refine QL ?_ | refine QM ?_)
        repeat first | refine Qo ?_ | refine Qn ?_
        refine awp_if false rfl (by first | (simp only [aeval_tmp, look, ↓reduceIte, Nat.reduceEqDiff]; try rfl) | rfl) (fun h => absurd h (by decide)) (fun _ => ?_)
        iterate 2 ((repeat first | refine Qo ?_ | refine Qn ?_); (first | (refine QK (by kernel_rfl) ?_; intro K_ hK_; simp -implicitDefEqProofs (disch := (try simp only [sl]); try omega) only [sm,QJ,Qj,Qi,Qq,QC,bd,look,aput,ty,↓reduceIte,Nat.reduceEqDiff,Nat.reduceAdd,Nat.reduceSub,Nat.reduceMul,Int.reduceLT,Int.reduceLE,Int.reduceNeg,Int.reduceToNat,reduceCtorEq,Nat.reduceBEq,Nat.reduceBNe,Qk,Qe,Value.cells,am,mm,keep, aint, c7, q06, hgt]; refine hK_ _ _ ?_; clear hK_ K_; repeat first | refine QL ?_ | refine QM ?_) | (refine awp_skip ?_; repeat first | refine QL ?_ | refine QM ?_)))
        first | refine awp_ret ?_ | skip
        show ∃ v, aresults Try.prog Try.f15 _ _ = some v ∧ _
        rw [aresults_1 (r := .tmp 4) (by kernel_rfl)]
        simp -implicitDefEqProofs (disch := (try simp only [sl]); try omega) only [aresult, Option.some.injEq, exists_eq_left', sm,Qj,Qi,Qq,QC,Qz,bd,QF,look,aput,QB,Qf,QA,ty,↓reduceIte,Nat.reduceEqDiff,Nat.reduceAdd,Nat.reduceSub,Nat.reduceMul,Int.reduceLT,Int.reduceLE,Int.reduceNeg,Int.reduceToNat,reduceCtorEq,Nat.reduceBEq,Nat.reduceBNe,Qk,Qe,Value.cells,am,mm,keep, aint, c7, q06, hgt]
        have U8 : Upd b p w H (.slice (some ⟨g7, 0, none⟩) n7 3) (adL L u) H7 := by
          rw [hL, hadd, hA0]
          rw [hA0] at U7
          exact U7
        exact ⟨by rw [hE], _, U8⟩
      · rw [List.concat_eq_append] at hA0
        have hAl : A.length = A'.length + 1 := by rw [hA0]; simp
        have hgt : ((A.length : Int) > 0) := by omega
        have w7 : IntKind.i64.wrap ((A.length : Int) - 1) = ((A'.length : Nat) : Int) := by rw [wi64 _ (by omega) (by omega)]; omega
        have hlA : A ++ m :: t = A' ++ pr :: (m :: t) := by rw [hA0, List.append_assoc]; rfl
        obtain ⟨p1, p2, p3⟩ := at_mid (n := n7) (A := A') (x := pr) (B := m :: t) (by rw [hnd, hlA]) (by rw [hCt7, hlA]) hCl7
        obtain ⟨r1, r2, r3⟩ := at_mid (n := n7) (A := A) (x := m) (B := t) hnd hCt7 hCl7
        have prok : okR pr := hAok pr (by rw [hA0]; simp)
        have il := ruc_length pr
        have ic := ruc_cellv pr
        have jl := ruc_length m
        have jc := ruc_cellv m
        have i7 : A.length < n7 := by omega
        have i8 : A'.length < n7 := by omega
        (repeat first | refine Qo ?_ | refine Qn ?_); refine awp_region_drawK (id := 12) [(0, []), (1, []), (2, []), (3, []), (4, []), (5, []), (6, []), (7, []), (8, []), (9, []), (10, []), (11, []), (12, []), (13, []), (14, []), (15, []), (16, []), (17, []), (18, []), (19, [])] mixed (by kernel_rfl) ?_; intro K_ hK_; simp -implicitDefEqProofs (disch := (try simp only [sl]); try omega) only [sm,aSel,Qu,Qv,Qw,Qx,Qy,Qj,Qi,Qq,QC,Qz,bd,QF,look,aput,Qm,QI,abin,anil,Qb,Qc,QA,Qd,ty,↓reduceIte,Nat.reduceEqDiff,Nat.reduceAdd,Nat.reduceSub,Nat.reduceMul,Int.reduceLT,Int.reduceLE,Int.reduceNeg,Int.reduceToNat,reduceCtorEq,Nat.reduceBEq,Nat.reduceBNe,Qk,Qe,Value.cells,am,mm,keep, aint, c7, q06, hgt, w7, cg7, p1, r1, p3, r3, il, ic, jl, jc, i7, i8]
        refine ACalls.mono (joins_calls pr m H7 prok) ?_
        rintro _ H8 ⟨rfl, e8⟩
        have U8 := U7.ext e8
        by_cases hj : joinR pr m
        · have hlo : loM m A = (A', (pr.1, pr.2.1, pr.2.2 + m.2.2)) := by rw [hA0]; unfold loM; simp [hj]
          have c8 := e8.cells c7
          have cg8 := e8.cells cg7
          have hg8 := e8 _ _ hg7
          have hgl8 := got_lt hg8
          have wm : IntKind.i64.wrap (pr.2.2 + m.2.2) = pr.2.2 + m.2.2 := by
            have h1 : 1 ≤ pr.1 ∧ 0 ≤ pr.2.1 ∧ 1 ≤ pr.2.2 ∧ pr.2.1 + pr.2.2 ≤ 65536 := prok
            have h2 : 1 ≤ m.1 ∧ 0 ≤ m.2.1 ∧ 1 ≤ m.2.2 ∧ m.2.1 + m.2.2 ≤ 65536 := hmo
            exact wi64 _ (by omega) (by omega)
          have U9 := U8
          rw [hlA] at U9
          have U9 := U9.many (by rw [hnd, hlA]) hg8 hCl7 (by rw [hCt7, hlA]) hbg7 (pr.2.2 + m.2.2)
          have gp8 : p ≠ g7 := fun e => U8.ld.2.2.2 0 n7 3 (by rw [e])
          have b9 := U9.ld.1
          have c9 := AH.cells_own b9
          try simp -implicitDefEqProofs (disch := (try simp only [sl]); try omega) only [sm,aSel,Qu,Qv,Qw,Qx,Qy,Qj,Qi,Qq,QC,Qz,bd,QF,look,aput,Qm,QI,abin,anil,Qb,Qc,QA,Qd,ty,↓reduceIte,Nat.reduceEqDiff,Nat.reduceAdd,Nat.reduceSub,Nat.reduceMul,Int.reduceLT,Int.reduceLE,Int.reduceNeg,Int.reduceToNat,reduceCtorEq,Nat.reduceBEq,Nat.reduceBNe,Qk,Qe,Value.cells,am,mm,keep, aint, c8, q06, w1, w7, cg8, p2, r2, p3, r3, i7, i8, wm, hg8, hgl8, decide_eq_true hj]
          try (refine hK_ _ _ ?_; clear hK_ K_; repeat first | refine QL ?_ | refine QM ?_)
          repeat first | refine Qo ?_ | refine Qn ?_
          refine awp_if true rfl (by first | (simp only [aeval_tmp, look, ↓reduceIte, Nat.reduceEqDiff]; try rfl) | rfl) (fun _ => ?_) (fun h => absurd h (by decide))
          iterate 1 ((repeat first | refine Qo ?_ | refine Qn ?_); (first | ((first | refine awp_region_drawK (id := 13) [(0, []), (1, []), (2, []), (3, []), (4, []), (5, []), (6, []), (7, []), (8, []), (9, []), (10, []), (11, []), (12, []), (13, []), (14, []), (15, []), (16, []), (17, []), (18, []), (19, []), (20, [])] mixed (by kernel_rfl) ?_ | refine QK (by kernel_rfl) ?_); intro K_ hK_; simp -implicitDefEqProofs (disch := (try simp only [sl]); try omega) only [sm,QJ,aSel,Qu,Qv,Qw,Qx,Qy,Qj,Qi,Qq,QC,Qz,bd,QF,look,aput,Qm,QI,abin,anil,Qb,Qc,QA,Qd,ty,↓reduceIte,Nat.reduceEqDiff,Nat.reduceAdd,Nat.reduceSub,Nat.reduceMul,Int.reduceLT,Int.reduceLE,Int.reduceNeg,Int.reduceToNat,reduceCtorEq,Nat.reduceBEq,Nat.reduceBNe,Qk,Qe,Value.cells,am,mm,keep, aint, c8, q06, w1, w7, cg8, p2, r2, p3, r3, i7, i8, wm, hg8, hgl8]; refine hK_ _ _ ?_; clear hK_ K_; repeat first | refine QL ?_ | refine QM ?_)))
          (repeat first | refine Qo ?_ | refine Qn ?_); refine QK (by kernel_rfl) ?_; intro K_ hK_; simp -implicitDefEqProofs (disch := (try simp only [sl]); try omega) only [sm,QJ,Qj,Qi,Qq,QC,Qz,bd,QF,look,aput,Qm,QI,abin,anil,Qc,QA,Qd,ty,↓reduceIte,Nat.reduceEqDiff,Nat.reduceAdd,Nat.reduceSub,Nat.reduceMul,Int.reduceLT,Int.reduceLE,Int.reduceNeg,Int.reduceToNat,reduceCtorEq,Nat.reduceBEq,Nat.reduceBNe,Qk,Qe,Value.cells,am,mm,keep, aint, c8, q06, w1, w7, cg8, p2, r2, p3, r3, i7, i8, wm, hg8, hgl8]
          obtain ⟨H9, hH9⟩ : ∃ H9, H9 = H8.set g7 (.own (C7.set (A'.length * 3 + 2) (.int .i64 (pr.2.2 + m.2.2)))) := ⟨_, rfl⟩
          rw [← hH9] at U9 b9 c9 ⊢
          have hl9 : (A' ++ (pr.1, pr.2.1, pr.2.2 + m.2.2) :: m :: t).length = A'.length + 2 + t.length := by rw [List.length_append, List.length_cons, List.length_cons]; omega
          refine ACalls.mono ((delR_calls _ (A' ++ (pr.1, pr.2.1, pr.2.2 + m.2.2) :: m :: t) A.length b H9 U9.ld.2.1 (Nat.le_trans hb U9.len) (by rw [hl9]; omega) (by rw [hl9]; omega)).len) ?_
          rintro wA HA ⟨⟨dA, rA, fA⟩, lA⟩
          have UB := U9.put dA rA fA lA
          have bA := rA _ _ U9.ld.2.2.2 b9
          have bAc := AH.cells_own bA
          have bAl := got_lt bA
          have hres : (A' ++ (pr.1, pr.2.1, pr.2.2 + m.2.2) :: m :: t).take A.length ++ (A' ++ (pr.1, pr.2.1, pr.2.2 + m.2.2) :: m :: t).drop (A.length + 1) = A' ++ (pr.1, pr.2.1, pr.2.2 + m.2.2) :: t := by rw [hAl]; exact take_drop_mid _ _ _ _
          rw [hres] at dA UB
          obtain ⟨gA, CA, hwA, -⟩ := dA.at (by rw [List.length_append, List.length_cons]; omega)
          obtain ⟨nA, hnA⟩ : ∃ nA, nA = (A' ++ (pr.1, pr.2.1, pr.2.2 + m.2.2) :: t).length := ⟨_, rfl⟩
          rw [← hnA] at hwA
          subst hwA
          have hsetA : ∀ v : Value, ([.slice (some ⟨g7, 0, none⟩) n7 3, .bool true] : List Value).set 0 v = [v, .bool true] := fun _ => rfl
          try simp -implicitDefEqProofs (disch := (try simp only [sl]); try omega) only [sm,QJ,Qj,Qi,Qq,QC,Qz,bd,QF,look,aput,Qm,QI,abin,anil,Qc,QA,Qd,ty,↓reduceIte,Nat.reduceEqDiff,Nat.reduceAdd,Nat.reduceSub,Nat.reduceMul,Int.reduceLT,Int.reduceLE,Int.reduceNeg,Int.reduceToNat,reduceCtorEq,Nat.reduceBEq,Nat.reduceBNe,Qk,Qe,Value.cells,am,mm,keep, aint, c9, q06, w1, w7, bA, bAc, bAl, hsetA]
          try (refine hK_ _ _ ?_; clear hK_ K_; repeat first | refine QL ?_ | refine QM ?_)
          iterate 1 ((repeat first | refine Qo ?_ | refine Qn ?_); (first | (refine QK (by kernel_rfl) ?_; intro K_ hK_; simp -implicitDefEqProofs (disch := (try simp only [sl]); try omega) only [sm,QJ,Qj,Qi,Qq,QC,bd,look,aput,ty,↓reduceIte,Nat.reduceEqDiff,Nat.reduceAdd,Nat.reduceSub,Nat.reduceMul,Int.reduceLT,Int.reduceLE,Int.reduceNeg,Int.reduceToNat,reduceCtorEq,Nat.reduceBEq,Nat.reduceBNe,Qk,Qe,Value.cells,am,mm,keep, aint, c9, q06, w1, w7, bA, bAc, bAl, hsetA]; refine hK_ _ _ ?_; clear hK_ K_; repeat first | refine QL ?_ | refine QM ?_)))
          first | refine awp_ret ?_ | skip
          show ∃ v, aresults Try.prog Try.f15 _ _ = some v ∧ _
          rw [aresults_1 (r := .tmp 4) (by kernel_rfl)]
          simp -implicitDefEqProofs (disch := (try simp only [sl]); try omega) only [aresult, Option.some.injEq, exists_eq_left', sm,Qj,Qi,Qq,QC,Qz,bd,QF,look,aput,QB,Qf,QA,ty,↓reduceIte,Nat.reduceEqDiff,Nat.reduceAdd,Nat.reduceSub,Nat.reduceMul,Int.reduceLT,Int.reduceLE,Int.reduceNeg,Int.reduceToNat,reduceCtorEq,Nat.reduceBEq,Nat.reduceBNe,Qk,Qe,Value.cells,am,mm,keep, aint, c9, q06, w1, w7, bA, bAc, bAl, hsetA]
          rw [hE, hL, hadd, hlo]
          exact ⟨rfl, _, UB⟩
        · have hlo : loM m A = (A, m) := by rw [hA0]; unfold loM; simp [hj]
          try simp -implicitDefEqProofs (disch := (try simp only [sl]); try omega) only [sm,aSel,Qu,Qv,Qw,Qx,Qy,Qj,Qi,Qq,QC,Qz,bd,QF,look,aput,Qm,QI,abin,anil,Qb,Qc,QA,Qd,ty,↓reduceIte,Nat.reduceEqDiff,Nat.reduceAdd,Nat.reduceSub,Nat.reduceMul,Int.reduceLT,Int.reduceLE,Int.reduceNeg,Int.reduceToNat,reduceCtorEq,Nat.reduceBEq,Nat.reduceBNe,Qk,Qe,Value.cells,am,mm,keep, aint, c7, q06, hgt, w7, decide_eq_false hj]
          try (refine hK_ _ _ ?_; clear hK_ K_; repeat first | refine QL ?_ | refine QM ?_)
          repeat first | refine Qo ?_ | refine Qn ?_
          refine awp_if false rfl (by first | (simp only [aeval_tmp, look, ↓reduceIte, Nat.reduceEqDiff]; try rfl) | rfl) (fun h => absurd h (by decide)) (fun _ => ?_)
          iterate 2 ((repeat first | refine Qo ?_ | refine Qn ?_); (first | (refine QK (by kernel_rfl) ?_; intro K_ hK_; simp -implicitDefEqProofs (disch := (try simp only [sl]); try omega) only [sm,QJ,Qj,Qi,Qq,QC,bd,look,aput,ty,↓reduceIte,Nat.reduceEqDiff,Nat.reduceAdd,Nat.reduceSub,Nat.reduceMul,Int.reduceLT,Int.reduceLE,Int.reduceNeg,Int.reduceToNat,reduceCtorEq,Nat.reduceBEq,Nat.reduceBNe,Qk,Qe,Value.cells,am,mm,keep, aint, c7, q06, hgt, w7]; refine hK_ _ _ ?_; clear hK_ K_; repeat first | refine QL ?_ | refine QM ?_) | (refine awp_skip ?_; repeat first | refine QL ?_ | refine QM ?_)))
          first | refine awp_ret ?_ | skip
          show ∃ v, aresults Try.prog Try.f15 _ _ = some v ∧ _
          rw [aresults_1 (r := .tmp 4) (by kernel_rfl)]
          simp -implicitDefEqProofs (disch := (try simp only [sl]); try omega) only [aresult, Option.some.injEq, exists_eq_left', sm,Qj,Qi,Qq,QC,Qz,bd,QF,look,aput,QB,Qf,QA,ty,↓reduceIte,Nat.reduceEqDiff,Nat.reduceAdd,Nat.reduceSub,Nat.reduceMul,Int.reduceLT,Int.reduceLE,Int.reduceNeg,Int.reduceToNat,reduceCtorEq,Nat.reduceBEq,Nat.reduceBNe,Qk,Qe,Value.cells,am,mm,keep, aint, c7, q06, hgt, w7]
          have U9 : Upd b p w H (.slice (some ⟨g7, 0, none⟩) n7 3) (adL L u) H8 := by
            rw [hL, hadd, hlo]
            exact U8
          exact ⟨by rw [hE], _, U9⟩
end Go.Proofs.Ytldfnfpinemedaa
