/- dirent: May; what the document says of it. -/
import Derived.Test.YtldfnfpinemedaaDi2
namespace Go.Proofs.Ytldfnfpinemedaa
open Go Go.RowKit
--hide
set_option linter.unusedSimpArgs false
set_option linter.unusedVariables false
set_option maxRecDepth 4000
theorem str_leq (a b : List UInt8) : astr .leq (bs a) (bs b) = some (.bool (!(Op.bytesLess b a))) := by
  simp only [astr, bs_list]
  rw [← less_tri b a, Bool.not_not]
theorem str_geq (a b : List UInt8) : astr .geq (bs a) (bs b) = some (.bool (!(Op.bytesLess a b))) := by
  simp only [astr, bs_list]
theorem less_first {n : List UInt8} (h : n ≠ []) : Op.bytesLess [] n = true := by
  cases n with
  | nil => exact absurd rfl h
  | cons a r => rfl
theorem getE (l : List En) (i : Nat) (h : i < l.length) : l.getD i ez = l[i] := by
  rw [List.getD_eq_getElem?_getD, List.getElem?_eq_getElem h]; rfl
set_option maxHeartbeats 8000000 in
theorem mayE_calls (v : Value) (l : List En) (H : AH) (hv : SLn H v l.length (flE l)) (hm : l.length ≤ 1000) :
    ACalls Try.prog 30 #[v] H fun w H' => w = .bool (decide (mayE l)) ∧ Ext H H' := by
  have lv := alen_sln (P := Try.prog) (T := 53) (by simp only [ty]) hv
  have hb0 : bs [] = ⟨#[]⟩ := rfl
  have fo_ : True := trivial
  have N_ := Now.start H
  have f_ := N_.has
  simp only [Has] at f_
  refine acalls_of_body Try.func30 rfl Try.ntmps30 (by simp) ?_
  simp only [argsT, Nat.reduceAdd]
  iterate 3 ((repeat first | refine Qo ?_ | refine Qn ?_); (first | (refine QK (by kernel_rfl) ?_; intro K_ hK_; simp -implicitDefEqProofs (disch := (try simp only [sl]); try omega) only [sm,QJ,Qj,Qi,Qq,QC,bd,look,aput,ty,↓reduceIte,Nat.reduceEqDiff,Nat.reduceAdd,Nat.reduceSub,Nat.reduceMul,Int.reduceLT,Int.reduceLE,Int.reduceNeg,Int.reduceToNat,reduceCtorEq,Nat.reduceBEq,Nat.reduceBNe,Qk,Qe,Value.cells,am,mm,keep, f_, fo_, aint, lv]; refine hK_ _ _ ?_; clear hK_ K_; repeat first | refine QL ?_ | refine QM ?_)))
  repeat first | refine Qo ?_ | refine Qn ?_
  refine awp_forK [6, 7] (fun x : Nat × ByteArray × AH => [(8, I64 x.1), (3, .string x.2.1)]) (fun x : Nat × ByteArray × AH => x.2.2) (fun x : Nat × ByteArray × AH => x.1 ≤ l.length ∧ x.2.1 = bs (prvE l x.1) ∧ Ext H x.2.2 ∧ (∀ j, j < x.1 → stepE l j)) (fun x : Nat × ByteArray × AH => l.length - x.1) ((0, ⟨#[]⟩, H)) (⟨Nat.zero_le _, rfl, Ext.refl _, fun j h => by omega⟩) (by repeat first | exact Forgets.nil | refine Forgets.cons (by first | (simp only [look, ↓reduceIte, Nat.reduceEqDiff]; done) | (simp only [look, ↓reduceIte, Nat.reduceEqDiff]; rfl) | simp [look]) ?_) rfl ?_
  rintro ⟨i, last, H2⟩ ⟨hi, hla, x2, hok⟩
  simp only [] at hi hla x2 hok ⊢
  subst hla
  clear f_ N_
  have N_ : Now H H2 [] := ⟨x2, trivial⟩
  have f_ := N_.has
  simp only [Has] at f_
  by_cases hlt : i < l.length
  · obtain ⟨g, o, e, cs, hve, hcs, hcc, hlen⟩ := hv.at (enc_hl l) i hlt
    cases hve
    have hgd := getE l i hlt
    have hst : stepE l i ↔ oneE l[i] ∧ Op.bytesLess (prvE l i) l[i].1 = true := by rw [stepE, hgd]
    have hpn : prvE l (i + 1) = l[i].1 := by rw [prvE, if_neg (by omega), Nat.add_sub_cancel, hgd]
    generalize l[i] = x at *
    have hcs2 := x2.cells hcs
    have xl := enc_length x
    have xc := enc_cellv x
    have xt := enc_take x
    have x0 := enc_0 x
    have xo := enc_ovr ez x
    have zl := enc_length ez
    have sl := str_leq x.1 (prvE l i)
    have hii : IntKind.i64.wrap ((i : Int) + 1) = (i : Int) + 1 := wi64 _ (by omega) (by omega)
    iterate 1 ((repeat first | refine Qo ?_ | refine Qn ?_); (first | (refine QK (by kernel_rfl) ?_; intro K_ hK_; simp -implicitDefEqProofs (disch := (try simp only [sl]); try omega) only [sm,QJ,Qj,Qi,Qq,QC,bd,look,aput,QI,abin,anil,ty,↓reduceIte,Nat.reduceEqDiff,Nat.reduceAdd,Nat.reduceSub,Nat.reduceMul,Int.reduceLT,Int.reduceLE,Int.reduceNeg,Int.reduceToNat,reduceCtorEq,Nat.reduceBEq,Nat.reduceBNe,Qk,Qe,Value.cells,am,mm,keep, f_, fo_, aint, lv, hcs2, hcc, hlen, xl, xc, xt, x0, xo, zl, zE, sl, hlt]; refine hK_ _ _ ?_; clear hK_ K_; repeat first | refine QL ?_ | refine QM ?_)))
    repeat first | refine Qo ?_ | refine Qn ?_
    refine awp_if true rfl (by first | (simp only [aeval_tmp, look, ↓reduceIte, Nat.reduceEqDiff]; try rfl) | rfl) (fun _ => ?_) (fun h => absurd h (by decide))
    iterate 2 ((repeat first | refine Qo ?_ | refine Qn ?_); (first | (refine QK (by kernel_rfl) ?_; intro K_ hK_; simp -implicitDefEqProofs (disch := (try simp only [sl]); try omega) only [sm,QJ,Qj,Qi,Qq,QC,Qz,bd,QF,look,aput,Qm,Qb,QA,ty,↓reduceIte,Nat.reduceEqDiff,Nat.reduceAdd,Nat.reduceSub,Nat.reduceMul,Int.reduceLT,Int.reduceLE,Int.reduceNeg,Int.reduceToNat,reduceCtorEq,Nat.reduceBEq,Nat.reduceBNe,Qk,Qe,Value.cells,am,mm,keep, f_, fo_, aint, lv, hcs2, hcc, hlen, xl, xc, xt, x0, xo, zl, zE, sl, hlt]; refine hK_ _ _ ?_; clear hK_ K_; repeat first | refine QL ?_ | refine QM ?_) | (refine awp_skip ?_; repeat first | refine QL ?_ | refine QM ?_)))
    first | refine AWp.snap8 N_ ?_ | refine AWp.snap7 N_ ?_ | refine AWp.snap6 N_ ?_ | refine AWp.snap5 N_ ?_ | refine AWp.snap4 N_ ?_ | refine AWp.snap3 N_ ?_ | refine AWp.snap2 N_ ?_ | refine AWp.snap1 N_ ?_
    clear fo_; have fo_ := f_; clear f_ N_; intro H3 xH3 lH3 N_
    have f_ := N_.has
    simp only [Has] at f_
    (repeat first | refine Qo ?_ | refine Qn ?_); refine QK (by kernel_rfl) ?_; intro K_ hK_; simp -implicitDefEqProofs (disch := (try simp only [sl]); try omega) only [sm,QJ,Qj,Qi,Qq,QC,Qz,bd,QF,look,aput,Qm,QI,abin,anil,QG,Qc,QA,ty,↓reduceIte,Nat.reduceEqDiff,Nat.reduceAdd,Nat.reduceSub,Nat.reduceMul,Int.reduceLT,Int.reduceLE,Int.reduceNeg,Int.reduceToNat,reduceCtorEq,Nat.reduceBEq,Nat.reduceBNe,Qk,Qe,Value.cells,am,mm,keep, f_, fo_, aint, lv, hcs2, hcc, hlen, xl, xc, xt, x0, xo, zl, zE, sl]
    refine ACalls.mono (isoneE_calls x H3) ?_
    rintro _ H4 ⟨rfl, e4⟩
    replace N_ := N_.grow e4
    clear fo_; have fo_ := f_; clear f_
    have f_ := N_.has
    simp only [Has] at f_
    by_cases h1 : oneE x
    · by_cases h2 : Op.bytesLess (prvE l i) x.1 = true
      · try simp -implicitDefEqProofs (disch := (try simp only [sl]); try omega) only [sm,QJ,Qj,Qi,Qq,QC,Qz,bd,QF,look,aput,Qm,QI,abin,anil,QG,Qc,QA,ty,↓reduceIte,Nat.reduceEqDiff,Nat.reduceAdd,Nat.reduceSub,Nat.reduceMul,Int.reduceLT,Int.reduceLE,Int.reduceNeg,Int.reduceToNat,reduceCtorEq,Nat.reduceBEq,Nat.reduceBNe,Qk,Qe,Value.cells,am,mm,keep, f_, fo_, aint, lv, hcs2, hcc, hlen, xl, xc, xt, x0, xo, zl, zE, sl, decide_eq_true h1, h2, Bool.not_true]
        try (refine hK_ _ _ ?_; clear hK_ K_; repeat first | refine QL ?_ | refine QM ?_)
        repeat first | refine Qo ?_ | refine Qn ?_
        refine awp_if false rfl (by first | (simp only [aeval_tmp, look, ↓reduceIte, Nat.reduceEqDiff]; try rfl) | rfl) (fun h => absurd h (by decide)) (fun _ => ?_)
        iterate 3 ((repeat first | refine Qo ?_ | refine Qn ?_); (first | (refine QK (by kernel_rfl) ?_; intro K_ hK_; simp -implicitDefEqProofs (disch := (try simp only [sl]); try omega) only [sm,QJ,Qj,Qi,Qq,QC,Qz,bd,QF,look,aput,QI,abin,anil,Qc,QA,ty,↓reduceIte,Nat.reduceEqDiff,Nat.reduceAdd,Nat.reduceSub,Nat.reduceMul,Int.reduceLT,Int.reduceLE,Int.reduceNeg,Int.reduceToNat,reduceCtorEq,Nat.reduceBEq,Nat.reduceBNe,Qk,Qe,Value.cells,am,mm,keep, f_, fo_, aint, lv, hcs2, hcc, hlen, xl, xc, xt, x0, xo, zl, zE, sl, hii]; refine hK_ _ _ ?_; clear hK_ K_; repeat first | refine QL ?_ | refine QM ?_) | (refine awp_skip ?_; repeat first | refine QL ?_ | refine QM ?_)))
        refine ⟨(i + 1, bs x.1, H4), ⟨by simp only []; omega, by simp only [hpn], N_.ext, fun j hj => by simp only [] at hj; rcases Nat.lt_or_ge j i with h | h; exact hok j h; obtain rfl : j = i := (by omega); exact hst.2 ⟨h1, h2⟩⟩, (by repeat first | exact Forgets.nil | refine Forgets.cons (by first | (simp only [look, ↓reduceIte, Nat.reduceEqDiff]; done) | (simp only [look, ↓reduceIte, Nat.reduceEqDiff]; rfl) | simp [look, hii]) ?_), ?_⟩
        first | omega | exact ⟨rfl, by omega⟩ | exact ⟨rfl, by simp only []; omega⟩ | (simp only []; omega)
      · have h2' : Op.bytesLess (prvE l i) x.1 = false := by simpa using h2
        have hn : ¬ mayE l := fun h => h2 (hst.1 (h i hlt)).2
        try simp -implicitDefEqProofs (disch := (try simp only [sl]); try omega) only [sm,QJ,Qj,Qi,Qq,QC,Qz,bd,QF,look,aput,Qm,QI,abin,anil,QG,Qc,QA,ty,↓reduceIte,Nat.reduceEqDiff,Nat.reduceAdd,Nat.reduceSub,Nat.reduceMul,Int.reduceLT,Int.reduceLE,Int.reduceNeg,Int.reduceToNat,reduceCtorEq,Nat.reduceBEq,Nat.reduceBNe,Qk,Qe,Value.cells,am,mm,keep, f_, fo_, aint, lv, hcs2, hcc, hlen, xl, xc, xt, x0, xo, zl, zE, sl, decide_eq_true h1, h2', Bool.not_true, Bool.not_false]
        try (refine hK_ _ _ ?_; clear hK_ K_; repeat first | refine QL ?_ | refine QM ?_)
        repeat first | refine Qo ?_ | refine Qn ?_
        refine awp_if true rfl (by first | (simp only [aeval_tmp, look, ↓reduceIte, Nat.reduceEqDiff]; try rfl) | rfl) (fun _ => ?_) (fun h => absurd h (by decide))
        iterate 1 ((repeat first | refine Qo ?_ | refine Qn ?_); (first | (refine QK (by kernel_rfl) ?_; intro K_ hK_; simp -implicitDefEqProofs (disch := (try simp only [sl]); try omega) only [sm,QJ,Qj,Qi,Qq,QC,bd,look,aput,ty,↓reduceIte,Nat.reduceEqDiff,Nat.reduceAdd,Nat.reduceSub,Nat.reduceMul,Int.reduceLT,Int.reduceLE,Int.reduceNeg,Int.reduceToNat,reduceCtorEq,Nat.reduceBEq,Nat.reduceBNe,Qk,Qe,Value.cells,am,mm,keep, f_, fo_, aint, lv, hcs2, hcc, hlen, xl, xc, xt, x0, xo, zl, zE, sl]; refine hK_ _ _ ?_; clear hK_ K_; repeat first | refine QL ?_ | refine QM ?_)))
        first | refine awp_ret ?_ | skip
        show ∃ v, aresults Try.prog Try.f30 _ _ = some v ∧ _
        rw [aresults_1 (r := .tmp 2) (by kernel_rfl)]
        simp -implicitDefEqProofs (disch := (try simp only [sl]); try omega) only [aresult, Option.some.injEq, exists_eq_left', sm,Qj,Qi,Qq,QC,Qz,bd,QF,look,aput,QB,Qf,QA,ty,↓reduceIte,Nat.reduceEqDiff,Nat.reduceAdd,Nat.reduceSub,Nat.reduceMul,Int.reduceLT,Int.reduceLE,Int.reduceNeg,Int.reduceToNat,reduceCtorEq,Nat.reduceBEq,Nat.reduceBNe,Qk,Qe,Value.cells,am,mm,keep, f_, fo_, aint, lv, hcs2, hcc, hlen, xl, xc, xt, x0, xo, zl, zE, sl]
        exact N_.ext
    · have hn : ¬ mayE l := fun h => h1 (hst.1 (h i hlt)).1
      try simp -implicitDefEqProofs (disch := (try simp only [sl]); try omega) only [sm,QJ,Qj,Qi,Qq,QC,Qz,bd,QF,look,aput,Qm,QI,abin,anil,QG,Qc,QA,ty,↓reduceIte,Nat.reduceEqDiff,Nat.reduceAdd,Nat.reduceSub,Nat.reduceMul,Int.reduceLT,Int.reduceLE,Int.reduceNeg,Int.reduceToNat,reduceCtorEq,Nat.reduceBEq,Nat.reduceBNe,Qk,Qe,Value.cells,am,mm,keep, f_, fo_, aint, lv, hcs2, hcc, hlen, xl, xc, xt, x0, xo, zl, zE, sl, decide_eq_false h1, Bool.not_false]
      try (refine hK_ _ _ ?_; clear hK_ K_; repeat first | refine QL ?_ | refine QM ?_)
      repeat first | refine Qo ?_ | refine Qn ?_
      refine awp_if true rfl (by first | (simp only [aeval_tmp, look, ↓reduceIte, Nat.reduceEqDiff]; try rfl) | rfl) (fun _ => ?_) (fun h => absurd h (by decide))
      iterate 1 ((repeat first | refine Qo ?_ | refine Qn ?_); (first | (refine QK (by kernel_rfl) ?_; intro K_ hK_; simp -implicitDefEqProofs (disch := (try simp only [sl]); try omega) only [sm,QJ,Qj,Qi,Qq,QC,bd,look,aput,ty,↓reduceIte,Nat.reduceEqDiff,Nat.reduceAdd,Nat.reduceSub,Nat.reduceMul,Int.reduceLT,Int.reduceLE,Int.reduceNeg,Int.reduceToNat,reduceCtorEq,Nat.reduceBEq,Nat.reduceBNe,Qk,Qe,Value.cells,am,mm,keep, f_, fo_, aint, lv, hcs2, hcc, hlen, xl, xc, xt, x0, xo, zl, zE, sl]; refine hK_ _ _ ?_; clear hK_ K_; repeat first | refine QL ?_ | refine QM ?_)))
      first | refine awp_ret ?_ | skip
      show ∃ v, aresults Try.prog Try.f30 _ _ = some v ∧ _
      rw [aresults_1 (r := .tmp 2) (by kernel_rfl)]
      simp -implicitDefEqProofs (disch := (try simp only [sl]); try omega) only [aresult, Option.some.injEq, exists_eq_left', sm,Qj,Qi,Qq,QC,Qz,bd,QF,look,aput,QB,Qf,QA,ty,↓reduceIte,Nat.reduceEqDiff,Nat.reduceAdd,Nat.reduceSub,Nat.reduceMul,Int.reduceLT,Int.reduceLE,Int.reduceNeg,Int.reduceToNat,reduceCtorEq,Nat.reduceBEq,Nat.reduceBNe,Qk,Qe,Value.cells,am,mm,keep, f_, fo_, aint, lv, hcs2, hcc, hlen, xl, xc, xt, x0, xo, zl, zE, sl]
      exact N_.ext
  obtain rfl : i = l.length := by omega
  have hn : mayE l := hok
  iterate 1 ((repeat first | refine Qo ?_ | refine Qn ?_); (first | (refine QK (by kernel_rfl) ?_; intro K_ hK_; simp -implicitDefEqProofs (disch := (try simp only [sl]); try omega) only [sm,QJ,Qj,Qi,Qq,QC,bd,look,aput,QI,abin,anil,ty,↓reduceIte,Nat.reduceEqDiff,Nat.reduceAdd,Nat.reduceSub,Nat.reduceMul,Int.reduceLT,Int.reduceLE,Int.reduceNeg,Int.reduceToNat,reduceCtorEq,Nat.reduceBEq,Nat.reduceBNe,Qk,Qe,Value.cells,am,mm,keep, f_, aint, lv, hlt]; refine hK_ _ _ ?_; clear hK_ K_; repeat first | refine QL ?_ | refine QM ?_)))
  repeat first | refine Qo ?_ | refine Qn ?_
  refine awp_if false rfl (by first | (simp only [aeval_tmp, look, ↓reduceIte, Nat.reduceEqDiff]; try rfl) | rfl) (fun h => absurd h (by decide)) (fun _ => ?_)
  iterate 2 ((repeat first | refine Qo ?_ | refine Qn ?_); (first | (refine QK (by kernel_rfl) ?_; intro K_ hK_; simp -implicitDefEqProofs (disch := (try simp only [sl]); try omega) only [sm,QJ,Qj,Qi,Qq,QC,bd,look,aput,ty,↓reduceIte,Nat.reduceEqDiff,Nat.reduceAdd,Nat.reduceSub,Nat.reduceMul,Int.reduceLT,Int.reduceLE,Int.reduceNeg,Int.reduceToNat,reduceCtorEq,Nat.reduceBEq,Nat.reduceBNe,Qk,Qe,Value.cells,am,mm,keep, f_, aint, lv]; refine hK_ _ _ ?_; clear hK_ K_; repeat first | refine QL ?_ | refine QM ?_) | (refine awp_exit ?_; (repeat first | refine aThen_exit ?_ | refine aIn_out rfl ?_); refine aIn_here ?_; repeat first | refine QL ?_ | refine QM ?_)))
  first | refine awp_ret ?_ | skip
  show ∃ v, aresults Try.prog Try.f30 _ _ = some v ∧ _
  rw [aresults_1 (r := .tmp 2) (by kernel_rfl)]
  simp -implicitDefEqProofs (disch := (try simp only [sl]); try omega) only [aresult, Option.some.injEq, exists_eq_left', sm,Qj,Qi,Qq,QC,Qz,bd,QF,look,aput,QB,Qf,QA,ty,↓reduceIte,Nat.reduceEqDiff,Nat.reduceAdd,Nat.reduceSub,Nat.reduceMul,Int.reduceLT,Int.reduceLE,Int.reduceNeg,Int.reduceToNat,reduceCtorEq,Nat.reduceBEq,Nat.reduceBNe,Qk,Qe,Value.cells,am,mm,keep, f_, aint, lv]
  first | exact x2 | exact ⟨by rw [decide_eq_true (show mayE l from hok)], x2⟩
end Go.Proofs.Ytldfnfpinemedaa
