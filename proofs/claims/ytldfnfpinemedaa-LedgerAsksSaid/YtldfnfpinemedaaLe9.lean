/- ledger: far, theirs, alive. -/
import Derived.Test.YtldfnfpinemedaaLe8
import Derived.Test.YtldfnfpinemedaaC8
namespace Go.Proofs.Ytldfnfpinemedaa
open Go Go.RowKit
--hide
set_option linter.unusedSimpArgs false
set_option linter.unusedVariables false
set_option maxRecDepth 4000
theorem wfu (n : Int) (h0 : 0 ≤ n) (h1 : n < 4294967296) : (Lit.int .u32 n).wf = true := by
  simp [Lit.wf, IntKind.min, IntKind.max, IntKind.signed, IntKind.bits]
  omega
theorem kin_run {T : Nat} {r : Rn} (hT : T = 44) (h : okR r) (he : r.1 < 4294967296) : KIn Try.prog 8 T (ruc r) := by
  subst hT
  have hu : Try.prog.underlying 44 = _ := (show Try.prog.underlying 44 = some (.struct #[{ name := "Epoch", type := 27, offset := 0, embedded := false, tag := "", pkgPath := "", byteOffset := 0 }, { name := "From", type := 3, offset := 1, embedded := false, tag := "", pkgPath := "", byteOffset := 8 }, { name := "Many", type := 3, offset := 2, embedded := false, tag := "", pkgPath := "", byteOffset := 16 }]) by kernel_rfl)
  have c1 : Try.prog.cellsOf 27 = 1 := by kernel_rfl
  have c2 : Try.prog.cellsOf 3 = 1 := by kernel_rfl
  have hc : Try.prog.cellsOf 44 = 3 := by kernel_rfl
  have d0 : ((ruc r).drop 0).take 1 = [.int .u32 r.1] := rfl
  have d1 : ((ruc r).drop 1).take 1 = [.int .i64 r.2.1] := rfl
  have d2 : ((ruc r).drop 2).take 1 = [.int .i64 r.2.2] := rfl
  have h' : 1 ≤ r.1 ∧ 0 ≤ r.2.1 ∧ 1 ≤ r.2.2 ∧ r.2.1 + r.2.2 ≤ 65536 := h
  unfold KIn
  simp only [hu, hc, ruc_length r, true_and]
  refine ⟨by kernel_rfl, ?_, fun f hf => ?_⟩
  · simp only [List.map_cons, List.map_nil, c1, c2, d0, d1, d2, List.flatten_cons, List.flatten_nil, List.append_nil]; rfl
  · simp only [List.mem_cons, List.not_mem_nil, or_false] at hf
    rcases hf with rfl | rfl | rfl
    · simp only [c1, d0]; exact kin_int (d := 6) (by kernel_rfl) (wfu _ (by omega) (by omega))
    · simp only [c2, d1]; exact kin_int (d := 6) (by kernel_rfl) (wfi _ (by omega) (by omega))
    · simp only [c2, d2]; exact kin_int (d := 6) (by kernel_rfl) (wfi _ (by omega) (by omega))
theorem aeq_run {r : Rn} (h : okR r) (he : r.1 < 4294967296) : aeqAgg Try.prog 44 (ruc r).toArray (ruc r).toArray = some true :=
  aeq_same (kin_run rfl h he) (by kernel_rfl) (by kernel_rfl) (by kernel_rfl)
theorem lfar_calls (v : Value) (l : List Us) (H : AH) (hv : SLn H v l.length (flU l)) : ACalls Try.prog 9 #[v] H fun w H' => w = .bool (decide ((l.length : Int) > 100)) ∧ H' = H := by
  have lv := alen_slnU (P := Try.prog) (T := 22) (by simp only [ty]) hv
  refine acalls_of_body Try.func9 rfl Try.ntmps9 (by simp) ?_
  simp only [argsT, Nat.reduceAdd]
  iterate 2 ((repeat first | refine Qo ?_ | refine Qn ?_); (first | (refine QK (by kernel_rfl) ?_; intro K_ hK_; simp -implicitDefEqProofs (disch := (try simp only [sl]); try omega) only [sm,QJ,Qj,Qi,Qq,QC,bd,look,aput,QI,abin,anil,ty,↓reduceIte,Nat.reduceEqDiff,Nat.reduceAdd,Nat.reduceSub,Nat.reduceMul,Int.reduceLT,Int.reduceLE,Int.reduceNeg,Int.reduceToNat,reduceCtorEq,Nat.reduceBEq,Nat.reduceBNe,Qk,Qe,Value.cells,am,mm,keep, aint, lv]; refine hK_ _ _ ?_; clear hK_ K_; repeat first | refine QL ?_ | refine QM ?_)))
  first | refine awp_ret ?_ | skip
  show ∃ v, aresults Try.prog Try.f9 _ _ = some v ∧ _
  rw [aresults_1 (r := .tmp 2) (by kernel_rfl)]
  simp -implicitDefEqProofs (disch := (try simp only [sl]); try omega) only [aresult, Option.some.injEq, exists_eq_left', sm,Qj,Qi,Qq,QC,Qz,bd,QF,look,aput,QB,Qf,QA,ty,↓reduceIte,Nat.reduceEqDiff,Nat.reduceAdd,Nat.reduceSub,Nat.reduceMul,Int.reduceLT,Int.reduceLE,Int.reduceNeg,Int.reduceToNat,reduceCtorEq,Nat.reduceBEq,Nat.reduceBNe,Qk,Qe,Value.cells,am,mm,keep, aint, lv]
def uA : Us := (1, 5)
def uB : Us := (1, 6)
def rAB : Rn := (1, 5, 2)
theorem allAB : allN [] [uA, uB] = 2 ∧ allE [] [uA, uB] = 0 ∧ allL [] [uA, uB] = [rAB] := ⟨rfl, rfl, rfl⟩
set_option maxHeartbeats 4000000 in
theorem lalive_calls (H : AH) : ACalls Try.prog 10 #[] H fun w H' => w = .bool true ∧ Ext H H' := by
  have hii : ∀ n : Int, (n == n) = true := fun n => by simp
  obtain ⟨hN, hE, hL⟩ := allAB
  have hrun : (#[.int .u32 1, .int .i64 5, .int .i64 2] : Array Value) = (ruc rAB).toArray := rfl
  have rl := ruc_length rAB
  have rc := ruc_cellv rAB
  have hok : okR rAB := by show (1 : Int) ≤ 1 ∧ (0 : Int) ≤ 5 ∧ (1 : Int) ≤ 2 ∧ (5 : Int) + 2 ≤ 65536; omega
  have hq := aeq_run hok (show (1 : Int) < 4294967296 by decide)
  have hs2 : sumR [rAB] = 2 := rfl
  have hnil : ∀ p : Option Addr, p = p := fun _ => rfl
  have fo_ : True := trivial
  have N_ := Now.start H
  have f_ := N_.has
  simp only [Has] at f_
  refine acalls_of_body Try.func10 rfl Try.ntmps10 (by simp) ?_
  simp only [argsT, Nat.reduceAdd]
  iterate 1 ((repeat first | refine Qo ?_ | refine Qn ?_); (first | (refine QK (by kernel_rfl) ?_; intro K_ hK_; simp -implicitDefEqProofs (disch := (try simp only [sl]); try omega) only [sm,QJ,Qj,Qi,Qq,QC,bd,look,aput,Qm,ty,↓reduceIte,Nat.reduceEqDiff,Nat.reduceAdd,Nat.reduceSub,Nat.reduceMul,Int.reduceLT,Int.reduceLE,Int.reduceNeg,Int.reduceToNat,reduceCtorEq,Nat.reduceBEq,Nat.reduceBNe,Qk,Qe,Value.cells,am,mm,keep, f_, fo_, aint, bd, bda, hii]; refine hK_ _ _ ?_; clear hK_ K_; repeat first | refine QL ?_ | refine QM ?_)))
  (repeat first | refine Qo ?_ | refine Qn ?_); refine QK (by kernel_rfl) ?_; intro K_ hK_; simp -implicitDefEqProofs (disch := (try simp only [sl]); try omega) only [sm,QJ,Qj,Qi,Qq,QC,bd,look,aput,Qm,ty,↓reduceIte,Nat.reduceEqDiff,Nat.reduceAdd,Nat.reduceSub,Nat.reduceMul,Int.reduceLT,Int.reduceLE,Int.reduceNeg,Int.reduceToNat,reduceCtorEq,Nat.reduceBEq,Nat.reduceBNe,Qk,Qe,Value.cells,am,mm,keep, f_, fo_, aint, bd, bda, hii]
  refine ACalls.mono (new_calls H) ?_
  rintro _ H1 ⟨rfl, h1, e1, l1⟩
  replace N_ := N_.grow e1
  clear fo_; have fo_ := f_; clear f_
  have f_ := N_.has
  simp only [Has] at f_
  try simp -implicitDefEqProofs (disch := (try simp only [sl]); try omega) only [sm,QJ,Qj,Qi,Qq,QC,bd,look,aput,Qm,ty,↓reduceIte,Nat.reduceEqDiff,Nat.reduceAdd,Nat.reduceSub,Nat.reduceMul,Int.reduceLT,Int.reduceLE,Int.reduceNeg,Int.reduceToNat,reduceCtorEq,Nat.reduceBEq,Nat.reduceBNe,Qk,Qe,Value.cells,am,mm,keep, f_, fo_, aint, bd, bda, hii]
  try (refine hK_ _ _ ?_; clear hK_ K_; repeat first | refine QL ?_ | refine QM ?_)
  iterate 1 ((repeat first | refine Qo ?_ | refine Qn ?_); (first | (refine QK (by kernel_rfl) ?_; intro K_ hK_; simp -implicitDefEqProofs (disch := (try simp only [sl]); try omega) only [sm,QJ,Qj,Qi,Qq,QC,bd,look,aput,QI,abin,anil,ty,↓reduceIte,Nat.reduceEqDiff,Nat.reduceAdd,Nat.reduceSub,Nat.reduceMul,Int.reduceLT,Int.reduceLE,Int.reduceNeg,Int.reduceToNat,reduceCtorEq,Nat.reduceBEq,Nat.reduceBNe,Qk,Qe,Value.cells,am,mm,keep, f_, fo_, aint, bd, bda, hii]; refine hK_ _ _ ?_; clear hK_ K_; repeat first | refine QL ?_ | refine QM ?_)))
  repeat first | refine Qo ?_ | refine Qn ?_
  refine awp_if false rfl (by first | (simp only [aeval_tmp, look, ↓reduceIte, Nat.reduceEqDiff]; try rfl) | rfl) (fun h => absurd h (by decide)) (fun _ => ?_)
  iterate 1 ((repeat first | refine Qo ?_ | refine Qn ?_); (first | (refine QK (by kernel_rfl) ?_; intro K_ hK_; simp -implicitDefEqProofs (disch := (try simp only [sl]); try omega) only [sm,QJ,Qj,Qi,Qq,QC,bd,look,aput,Qm,Qh,ty,↓reduceIte,Nat.reduceEqDiff,Nat.reduceAdd,Nat.reduceSub,Nat.reduceMul,Int.reduceLT,Int.reduceLE,Int.reduceNeg,Int.reduceToNat,reduceCtorEq,Nat.reduceBEq,Nat.reduceBNe,Qk,Qe,Value.cells,am,mm,keep, f_, fo_, aint, bd, bda, hii]; refine hK_ _ _ ?_; clear hK_ K_; repeat first | refine QL ?_ | refine QM ?_) | (refine awp_skip ?_; repeat first | refine QL ?_ | refine QM ?_)))
  (repeat first | refine Qo ?_ | refine Qn ?_); refine QK (by kernel_rfl) ?_; intro K_ hK_; simp -implicitDefEqProofs (disch := (try simp only [sl]); try omega) only [sm,QJ,Qj,Qi,Qq,QC,bd,look,aput,Qm,Qh,ty,↓reduceIte,Nat.reduceEqDiff,Nat.reduceAdd,Nat.reduceSub,Nat.reduceMul,Int.reduceLT,Int.reduceLE,Int.reduceNeg,Int.reduceToNat,reduceCtorEq,Nat.reduceBEq,Nat.reduceBNe,Qk,Qe,Value.cells,am,mm,keep, f_, fo_, aint, bd, bda, hii]
  first | refine ACalls.snap8 N_ ?_ | refine ACalls.snap7 N_ ?_ | refine ACalls.snap6 N_ ?_ | refine ACalls.snap5 N_ ?_ | refine ACalls.snap4 N_ ?_ | refine ACalls.snap3 N_ ?_ | refine ACalls.snap2 N_ ?_ | refine ACalls.snap1 N_ ?_
  clear fo_; have fo_ := f_; clear f_ N_; intro H2 xH2 lH2 N_
  have f_ := N_.has
  simp only [Has] at f_
  have hq2 := f_.1.2.1
  have s2 : SLn H2 (.slice (some ⟨H1.length, 0, none⟩) 2 2) [uA, uB].length (flU [uA, uB]) := .inr ⟨H1.length, 0, 2, rfl, .inr ⟨_, AH.cells_own hq2, by simp [flU, usc], by simp [flU, usc, uA, uB]⟩⟩
  have hr0 : ∀ u ∈ [uA, uB], (0 : Int) ≤ u.1 := fun u hu => by
    simp only [List.mem_cons, List.not_mem_nil, or_false] at hu
    rcases hu with h | h <;> (rw [h]; exact (show (0 : Int) ≤ 1 by decide))
  refine ACalls.mono (all_calls H.length H.length (.slice none 0 0) (.slice (some ⟨H1.length, 0, none⟩) 2 2) [] [] [uA, uB] H2 (h1.mono xH2) CI.nil s2 (by simp) (by have := e1.length; have := xH2.length; omega) hr0 (fun q o n e k => ⟨by cases k; omega, fun o n e k => by cases k⟩)) ?_
  rintro _ H3 ⟨rfl, w3, U3⟩
  rw [hN, hE]
  rw [hL] at U3
  have x3 : Ext H H3 := U3.keep (h1.mono xH2) (e1.trans xH2) (Nat.le_refl _)
  clear f_ fo_ N_
  have N_ : Now H H3 [] := ⟨x3, trivial⟩
  have f_ := True.intro
  have fo_ := True.intro
  try simp -implicitDefEqProofs (disch := (try simp only [sl]); try omega) only [sm,QJ,Qj,Qi,Qq,QC,bd,look,aput,Qm,Qh,ty,↓reduceIte,Nat.reduceEqDiff,Nat.reduceAdd,Nat.reduceSub,Nat.reduceMul,Int.reduceLT,Int.reduceLE,Int.reduceNeg,Int.reduceToNat,reduceCtorEq,Nat.reduceBEq,Nat.reduceBNe,Qk,Qe,Value.cells,am,mm,keep, f_, fo_, aint, bd, bda, hii]
  try (refine hK_ _ _ ?_; clear hK_ K_; repeat first | refine QL ?_ | refine QM ?_)
  (repeat first | refine Qo ?_ | refine Qn ?_); refine QK (by kernel_rfl) ?_; intro K_ hK_; simp -implicitDefEqProofs (disch := (try simp only [sl]); try omega) only [sm,QJ,Qj,Qi,Qq,QC,bd,look,aput,Qm,ty,↓reduceIte,Nat.reduceEqDiff,Nat.reduceAdd,Nat.reduceSub,Nat.reduceMul,Int.reduceLT,Int.reduceLE,Int.reduceNeg,Int.reduceToNat,reduceCtorEq,Nat.reduceBEq,Nat.reduceBNe,Qk,Qe,Value.cells,am,mm,keep, f_, fo_, aint, bd, bda, hii]
  refine ACalls.mono (runs_calls H.length H.length w3 [rAB] H3 U3.ld (by simp)) ?_
  rintro v H4 ⟨o4, e4⟩
  replace N_ := N_.grow e4
  clear fo_; have fo_ := f_; clear f_
  have f_ := N_.has
  simp only [Has] at f_
  have hv4 := o4.sln
  have lv := alen_slnU (P := Try.prog) (T := 38) (by simp only [ty]) hv4
  rw [show [rAB].length = 1 from rfl] at lv
  obtain ⟨g, o, e, cs, rfl, hcs, hcc, hlen⟩ := hv4.at (ruc_hl [rAB]) 0 (by simp)
  rw [show [rAB][0] = rAB from rfl] at hcc
  rw [Nat.zero_mul, Nat.add_zero] at hcc hlen
  rw [show [rAB].length = 1 from rfl] at lv ⊢
  generalize rAB = r at *
  try simp -implicitDefEqProofs (disch := (try simp only [sl]); try omega) only [sm,QJ,Qj,Qi,Qq,QC,bd,look,aput,Qm,ty,↓reduceIte,Nat.reduceEqDiff,Nat.reduceAdd,Nat.reduceSub,Nat.reduceMul,Int.reduceLT,Int.reduceLE,Int.reduceNeg,Int.reduceToNat,reduceCtorEq,Nat.reduceBEq,Nat.reduceBNe,Qk,Qe,Value.cells,am,mm,keep, f_, fo_, aint, bd, bda, hii, lv, hcs, hcc, hlen, rl, rc, hrun, hq]
  try (refine hK_ _ _ ?_; clear hK_ K_; repeat first | refine QL ?_ | refine QM ?_)
  (repeat first | refine Qo ?_ | refine Qn ?_); refine QK (by kernel_rfl) ?_; intro K_ hK_; simp -implicitDefEqProofs (disch := (try simp only [sl]); try omega) only [sm,QJ,Qj,Qi,Qq,QC,Qz,bd,QF,look,aput,Qm,QI,abin,anil,Qb,QA,ty,↓reduceIte,Nat.reduceEqDiff,Nat.reduceAdd,Nat.reduceSub,Nat.reduceMul,Int.reduceLT,Int.reduceLE,Int.reduceNeg,Int.reduceToNat,reduceCtorEq,Nat.reduceBEq,Nat.reduceBNe,Qk,Qe,Value.cells,am,mm,keep, f_, fo_, aint, bd, bda, hii, lv, hcs, hcc, hlen, rl, rc, hrun, hq]
  refine ACalls.mono (len_calls H.length H.length w3 [r] H4 (U3.ld.mono e4) (fun x hx => by rw [List.mem_singleton.1 hx]; exact hok) (by rw [hs2]; decide)) ?_
  rintro _ H5 ⟨rfl, e5⟩
  rw [hs2]
  try simp -implicitDefEqProofs (disch := (try simp only [sl]); try omega) only [sm,QJ,Qj,Qi,Qq,QC,Qz,bd,QF,look,aput,Qm,QI,abin,anil,Qb,QA,ty,↓reduceIte,Nat.reduceEqDiff,Nat.reduceAdd,Nat.reduceSub,Nat.reduceMul,Int.reduceLT,Int.reduceLE,Int.reduceNeg,Int.reduceToNat,reduceCtorEq,Nat.reduceBEq,Nat.reduceBNe,Qk,Qe,Value.cells,am,mm,keep, f_, fo_, aint, bd, bda, hii, lv, hcs, hcc, hlen, rl, rc, hrun, hq]
  try (refine hK_ _ _ ?_; clear hK_ K_; repeat first | refine QL ?_ | refine QM ?_)
  first | refine awp_ret ?_ | skip
  show ∃ v, aresults Try.prog Try.f10 _ _ = some v ∧ _
  rw [aresults_1 (r := .tmp 0) (by kernel_rfl)]
  simp -implicitDefEqProofs (disch := (try simp only [sl]); try omega) only [aresult, Option.some.injEq, exists_eq_left', sm,Qj,Qi,Qq,QC,Qz,bd,QF,look,aput,QB,Qf,QA,ty,↓reduceIte,Nat.reduceEqDiff,Nat.reduceAdd,Nat.reduceSub,Nat.reduceMul,Int.reduceLT,Int.reduceLE,Int.reduceNeg,Int.reduceToNat,reduceCtorEq,Nat.reduceBEq,Nat.reduceBNe,Qk,Qe,Value.cells,am,mm,keep, f_, fo_, aint, bd, bda, hii, lv, hcs, hcc, hlen, rl, rc, hrun, hq]
  exact N_.ext.trans e5
end Go.Proofs.Ytldfnfpinemedaa
