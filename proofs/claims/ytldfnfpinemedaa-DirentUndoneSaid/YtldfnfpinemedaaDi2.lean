/- dirent: isOne; what the document says of it. -/
import Derived.Test.YtldfnfpinemedaaDi1
import Derived.Test.YtldfnfpinemedaaSst
import Derived.Test.YtldfnfpinemedaaBda
import Derived.Test.YtldfnfpinemedaaC8
import Derived.Test.YtldfnfpinemedaaPk7
namespace Go.Proofs.Ytldfnfpinemedaa
open Go Go.RowKit
--hide
set_option linter.unusedSimpArgs false
set_option linter.unusedVariables false
set_option maxRecDepth 4000
theorem alen_sln {P : Program} {H : AH} {T : TypeId} {v : Value} {n : Nat} {cells : List Value} (hT : sliceT P T = true) (h : SLn H v n cells) : alen P T v = some (.int .i64 (n : Int)) := by
  obtain ⟨p, e, rfl⟩ := h.shape
  rw [alen_slice, if_pos hT]
abbrev flE (l : List En) : List Value := (l.map enc).flatten
theorem enc_length (x : En) : (enc x).length = 2 := rfl
theorem enc_cellv (x : En) : (enc x).all cellv = true := rfl
theorem enc_hl (l : List En) : ∀ x ∈ l, (enc x).length = 2 := fun x _ => rfl
theorem enc_take (x : En) : List.take 2 (enc x) = enc x := rfl
theorem enc_0 (x : En) : (enc x)[0]? = some (.string (bs x.1)) := rfl
theorem enc_1 (x : En) : (enc x)[1]? = some (.int .i64 x.2) := rfl
theorem enc_ovr (x y : En) : ovr (enc x) 0 (enc y) = enc y := ovr_all _ _ rfl
theorem flE_length (l : List En) : (flE l).length = l.length * 2 := flatS_length 2 enc l (enc_hl l)
theorem flE_snoc (l : List En) (x : En) : flE (l ++ [x]) = flE l ++ enc x := by simp [flE]
theorem zE : [Value.string ⟨#[]⟩, Value.int .i64 0] = enc ez := rfl
theorem zEr : [Value.string ⟨#[]⟩, Value.int .i64 0] = enc ez := rfl
theorem str_ne (n : List UInt8) : astr .neq (bs n) ⟨#[]⟩ = some (.bool (decide (n ≠ []))) := by
  have h : (ByteArray.toList ⟨#[]⟩) = [] := by rw [ba_toList]
  simp only [astr, bs_list, h]
  cases n <;> simp
set_option maxHeartbeats 4000000 in
theorem isoneE_calls (x : En) (H : AH) : ACalls Try.prog 45 #[.agg (enc x).toArray] H fun w H' => w = .bool (decide (oneE x)) ∧ Ext H H' := by
  have hl := enc_length x
  have hc := enc_cellv x
  have p0 := enc_0 x
  have p1 := enc_1 x
  have sn := str_ne x.1
  have z1 := bs_size x.1
  have fo_ : True := trivial
  have N_ := Now.start H
  have f_ := N_.has
  simp only [Has] at f_
  refine acalls_of_body Try.func45 rfl Try.ntmps45 (by simp) ?_
  simp only [argsT, Nat.reduceAdd]
  iterate 1 ((repeat first | refine Qo ?_ | refine Qn ?_); (first | (refine QK (by kernel_rfl) ?_; intro K_ hK_; simp -implicitDefEqProofs (disch := (try simp only [sl]); try omega) only [sm,QJ,Qj,Qi,Qq,QC,bd,look,aput,ty,↓reduceIte,Nat.reduceEqDiff,Nat.reduceAdd,Nat.reduceSub,Nat.reduceMul,Int.reduceLT,Int.reduceLE,Int.reduceNeg,Int.reduceToNat,reduceCtorEq,Nat.reduceBEq,Nat.reduceBNe,Qk,Qe,Value.cells,am,mm,keep, f_, fo_, hl, hc, p0, p1, sn, z1, aint]; refine hK_ _ _ ?_; clear hK_ K_; repeat first | refine QL ?_ | refine QM ?_)))
  first | refine AWp.snap8 N_ ?_ | refine AWp.snap7 N_ ?_ | refine AWp.snap6 N_ ?_ | refine AWp.snap5 N_ ?_ | refine AWp.snap4 N_ ?_ | refine AWp.snap3 N_ ?_ | refine AWp.snap2 N_ ?_ | refine AWp.snap1 N_ ?_
  clear fo_; have fo_ := f_; clear f_ N_; intro H1 xH1 lH1 N_
  have f_ := N_.has
  simp only [Has] at f_
  by_cases h0 : x.1 = []
  · have e0 : decide (x.1 ≠ []) = false := decide_eq_false (fun h => h h0)
    iterate 1 ((repeat first | refine Qo ?_ | refine Qn ?_); (first | (refine QK (by kernel_rfl) ?_; intro K_ hK_; simp -implicitDefEqProofs (disch := (try simp only [sl]); try omega) only [sm,QJ,Qj,Qi,Qq,QC,Qz,bd,QF,look,aput,QI,abin,anil,Qc,QA,ty,↓reduceIte,Nat.reduceEqDiff,Nat.reduceAdd,Nat.reduceSub,Nat.reduceMul,Int.reduceLT,Int.reduceLE,Int.reduceNeg,Int.reduceToNat,reduceCtorEq,Nat.reduceBEq,Nat.reduceBNe,Qk,Qe,Value.cells,am,mm,keep, f_, fo_, hl, hc, p0, p1, sn, z1, aint, e0]; refine hK_ _ _ ?_; clear hK_ K_; repeat first | refine QL ?_ | refine QM ?_)))
    first | refine awp_ret ?_ | skip
    show ∃ v, aresults Try.prog Try.f45 _ _ = some v ∧ _
    rw [aresults_1 (r := .tmp 2) (by kernel_rfl)]
    simp -implicitDefEqProofs (disch := (try simp only [sl]); try omega) only [aresult, Option.some.injEq, exists_eq_left', sm,Qj,Qi,Qq,QC,Qz,bd,QF,look,aput,QB,Qf,QA,ty,↓reduceIte,Nat.reduceEqDiff,Nat.reduceAdd,Nat.reduceSub,Nat.reduceMul,Int.reduceLT,Int.reduceLE,Int.reduceNeg,Int.reduceToNat,reduceCtorEq,Nat.reduceBEq,Nat.reduceBNe,Qk,Qe,Value.cells,am,mm,keep, f_, fo_, hl, hc, p0, p1, sn, z1, aint]
    rw [decide_eq_false (fun h : oneE x => h.1 h0)]
    exact ⟨rfl, N_.ext⟩
  have e0 : decide (x.1 ≠ []) = true := decide_eq_true h0
  by_cases h1 : x.1.length ≤ 24
  · have e1 : ((x.1.length : Nat) : Int) ≤ 24 := by omega
    by_cases h2 : x.2 > 0
    · -- (cursor back)
      iterate 1 ((repeat first | refine Qo ?_ | refine Qn ?_); (first | (refine QK (by kernel_rfl) ?_; intro K_ hK_; simp -implicitDefEqProofs (disch := (try simp only [sl]); try omega) only [sm,QJ,Qj,Qi,Qq,QC,Qz,bd,QF,look,aput,QI,abin,anil,Qc,QA,ty,↓reduceIte,Nat.reduceEqDiff,Nat.reduceAdd,Nat.reduceSub,Nat.reduceMul,Int.reduceLT,Int.reduceLE,Int.reduceNeg,Int.reduceToNat,reduceCtorEq,Nat.reduceBEq,Nat.reduceBNe,Qk,Qe,Value.cells,am,mm,keep, f_, fo_, hl, hc, p0, p1, sn, z1, aint, e0, e1, h2]; refine hK_ _ _ ?_; clear hK_ K_; repeat first | refine QL ?_ | refine QM ?_)))
      first | refine awp_ret ?_ | skip
      show ∃ v, aresults Try.prog Try.f45 _ _ = some v ∧ _
      rw [aresults_1 (r := .tmp 2) (by kernel_rfl)]
      simp -implicitDefEqProofs (disch := (try simp only [sl]); try omega) only [aresult, Option.some.injEq, exists_eq_left', sm,Qj,Qi,Qq,QC,Qz,bd,QF,look,aput,QB,Qf,QA,ty,↓reduceIte,Nat.reduceEqDiff,Nat.reduceAdd,Nat.reduceSub,Nat.reduceMul,Int.reduceLT,Int.reduceLE,Int.reduceNeg,Int.reduceToNat,reduceCtorEq,Nat.reduceBEq,Nat.reduceBNe,Qk,Qe,Value.cells,am,mm,keep, f_, fo_, hl, hc, p0, p1, sn, z1, aint]
      refine ⟨?_, N_.ext⟩
      congr 1
      rw [decide_eq_decide]
      unfold oneE
      constructor
      · intro h; exact ⟨h0, h1, by omega, by omega⟩
      · intro h; have := h.2.2.2; omega
    · -- (cursor back)
      iterate 1 ((repeat first | refine Qo ?_ | refine Qn ?_); (first | (refine QK (by kernel_rfl) ?_; intro K_ hK_; simp -implicitDefEqProofs (disch := (try simp only [sl]); try omega) only [sm,QJ,Qj,Qi,Qq,QC,Qz,bd,QF,look,aput,QI,abin,anil,Qc,QA,ty,↓reduceIte,Nat.reduceEqDiff,Nat.reduceAdd,Nat.reduceSub,Nat.reduceMul,Int.reduceLT,Int.reduceLE,Int.reduceNeg,Int.reduceToNat,reduceCtorEq,Nat.reduceBEq,Nat.reduceBNe,Qk,Qe,Value.cells,am,mm,keep, f_, fo_, hl, hc, p0, p1, sn, z1, aint, e0, e1, h2]; refine hK_ _ _ ?_; clear hK_ K_; repeat first | refine QL ?_ | refine QM ?_)))
      first | refine awp_ret ?_ | skip
      show ∃ v, aresults Try.prog Try.f45 _ _ = some v ∧ _
      rw [aresults_1 (r := .tmp 2) (by kernel_rfl)]
      simp -implicitDefEqProofs (disch := (try simp only [sl]); try omega) only [aresult, Option.some.injEq, exists_eq_left', sm,Qj,Qi,Qq,QC,Qz,bd,QF,look,aput,QB,Qf,QA,ty,↓reduceIte,Nat.reduceEqDiff,Nat.reduceAdd,Nat.reduceSub,Nat.reduceMul,Int.reduceLT,Int.reduceLE,Int.reduceNeg,Int.reduceToNat,reduceCtorEq,Nat.reduceBEq,Nat.reduceBNe,Qk,Qe,Value.cells,am,mm,keep, f_, fo_, hl, hc, p0, p1, sn, z1, aint]
      rw [decide_eq_false (fun h : oneE x => h2 h.2.2.1)]
      exact ⟨rfl, N_.ext⟩
  · have e1 : ¬ ((x.1.length : Nat) : Int) ≤ 24 := by omega
    iterate 1 ((repeat first | refine Qo ?_ | refine Qn ?_); (first | (refine QK (by kernel_rfl) ?_; intro K_ hK_; simp -implicitDefEqProofs (disch := (try simp only [sl]); try omega) only [sm,QJ,Qj,Qi,Qq,QC,Qz,bd,QF,look,aput,QI,abin,anil,Qc,QA,ty,↓reduceIte,Nat.reduceEqDiff,Nat.reduceAdd,Nat.reduceSub,Nat.reduceMul,Int.reduceLT,Int.reduceLE,Int.reduceNeg,Int.reduceToNat,reduceCtorEq,Nat.reduceBEq,Nat.reduceBNe,Qk,Qe,Value.cells,am,mm,keep, f_, fo_, hl, hc, p0, p1, sn, z1, aint, e0, e1]; refine hK_ _ _ ?_; clear hK_ K_; repeat first | refine QL ?_ | refine QM ?_)))
    first | refine awp_ret ?_ | skip
    show ∃ v, aresults Try.prog Try.f45 _ _ = some v ∧ _
    rw [aresults_1 (r := .tmp 2) (by kernel_rfl)]
    simp -implicitDefEqProofs (disch := (try simp only [sl]); try omega) only [aresult, Option.some.injEq, exists_eq_left', sm,Qj,Qi,Qq,QC,Qz,bd,QF,look,aput,QB,Qf,QA,ty,↓reduceIte,Nat.reduceEqDiff,Nat.reduceAdd,Nat.reduceSub,Nat.reduceMul,Int.reduceLT,Int.reduceLE,Int.reduceNeg,Int.reduceToNat,reduceCtorEq,Nat.reduceBEq,Nat.reduceBNe,Qk,Qe,Value.cells,am,mm,keep, f_, fo_, hl, hc, p0, p1, sn, z1, aint]
    rw [decide_eq_false (fun h : oneE x => h1 h.2.1)]
    exact ⟨rfl, N_.ext⟩
end Go.Proofs.Ytldfnfpinemedaa
