/- chapter 25: the document's text. -/
import Derived.Test.YtldfnfpinemedaaDoorFa9
namespace Go.Proofs.YtldfnfpinemedaaDoor
open Go Go.RowKit
--hide
set_option linter.unusedSimpArgs false
set_option linter.unusedVariables false
set_option maxRecDepth 4000
theorem txL_snoc (l : List Ly) (i : Nat) (h : i < l.length) (s : ByteArray) : txL (l.take (i + 1)).reverse s = (((l[i].1 ++ ⟨#[32]⟩) ++ l[i].2) ++ ⟨#[58, 32]⟩) ++ txL (l.take i).reverse s := by
  rw [List.take_succ_eq_append_getElem h, List.reverse_append]
  rfl
theorem lyc_at {cs : List Value} {k : Nat} {x : Ly} (h : (cs.drop k).take 2 = lyc x) : cs[k]? = some (.string x.1) ∧ cs[k + 1]? = some (.string x.2) := by
  have h0 : ((cs.drop k).take 2)[0]? = some (.string x.1) := by rw [h]; rfl
  have h1 : ((cs.drop k).take 2)[1]? = some (.string x.2) := by rw [h]; rfl
  rw [List.getElem?_take_of_lt (by decide), List.getElem?_drop] at h0 h1
  exact ⟨h0, h1⟩
set_option maxHeartbeats 8000000 in
theorem reftext_calls (v : Value) (l : List Ly) (e : Int) (H : AH) (hv : SLn H v l.length (flL l)) (hsm : smallL l) (hm : l.length ≤ 60) (h0 : -1000000 ≤ e) (he : e ≤ 9223372036854775807) : ACalls Tryd.prog 17 #[v, .int .i64 e] H fun w H' => w = .string (txL l.reverse (errS e)) ∧ Ext H H' := by
  have lv := alen_layers hv
  have hr : i64r e := ⟨by omega, he⟩
  have hse := errS_size hr
  have ae := add_str (a := ⟨#[101, 114, 114, 111, 114, 32]⟩) (b := bs (itB e)) (by
    have := hse
    unfold errS at this
    rw [ba_size] at this
    omega)
  have he' : (⟨#[101, 114, 114, 111, 114, 32]⟩ : ByteArray) ++ bs (itB e) = errS e := rfl
  rw [he'] at ae
  refine acalls_of_body Tryd.func17 rfl Tryd.ntmps17 (by simp) ?_
  simp only [argsT, Nat.reduceAdd]
  iterate 1 ((repeat first | refine Qo ?_ | refine Qn ?_); (first | (refine QK (by kernel_rfl) ?_; intro K_ hK_; simp -implicitDefEqProofs (disch := (try simp only [sl]); try omega) only [sm,QJ,Qj,Qi,Qq,QC,bd,look,aput,Qm,QI,abin,anil,ty,↓reduceIte,Nat.reduceEqDiff,Nat.reduceAdd,Nat.reduceSub,Nat.reduceMul,Int.reduceLT,Int.reduceLE,Int.reduceNeg,Int.reduceToNat,reduceCtorEq,Nat.reduceBEq,Nat.reduceBNe,Qk,Qe,Value.cells,am,mm,keep, aint, lv]; refine hK_ _ _ ?_; clear hK_ K_; repeat first | refine QL ?_ | refine QM ?_)))
  (repeat first | refine Qo ?_ | refine Qn ?_); refine QK (by kernel_rfl) ?_; intro K_ hK_; simp -implicitDefEqProofs (disch := (try simp only [sl]); try omega) only [sm,QJ,Qj,Qi,Qq,QC,bd,look,aput,Qm,QI,abin,anil,ty,↓reduceIte,Nat.reduceEqDiff,Nat.reduceAdd,Nat.reduceSub,Nat.reduceMul,Int.reduceLT,Int.reduceLE,Int.reduceNeg,Int.reduceToNat,reduceCtorEq,Nat.reduceBEq,Nat.reduceBNe,Qk,Qe,Value.cells,am,mm,keep, aint, lv]
  refine ACalls.mono (dig_calls e h0 he H) ?_
  rintro _ H1 ⟨rfl, e1⟩
  try simp -implicitDefEqProofs (disch := (try simp only [sl]); try omega) only [sm,QJ,Qj,Qi,Qq,QC,bd,look,aput,Qm,QI,abin,anil,ty,↓reduceIte,Nat.reduceEqDiff,Nat.reduceAdd,Nat.reduceSub,Nat.reduceMul,Int.reduceLT,Int.reduceLE,Int.reduceNeg,Int.reduceToNat,reduceCtorEq,Nat.reduceBEq,Nat.reduceBNe,Qk,Qe,Value.cells,am,mm,keep, aint, lv, ae]
  try (refine hK_ _ _ ?_; clear hK_ K_; repeat first | refine QL ?_ | refine QM ?_)
  iterate 1 ((repeat first | refine Qo ?_ | refine Qn ?_); (first | (refine QK (by kernel_rfl) ?_; intro K_ hK_; simp -implicitDefEqProofs (disch := (try simp only [sl]); try omega) only [sm,QJ,Qj,Qi,Qq,QC,bd,look,aput,ty,↓reduceIte,Nat.reduceEqDiff,Nat.reduceAdd,Nat.reduceSub,Nat.reduceMul,Int.reduceLT,Int.reduceLE,Int.reduceNeg,Int.reduceToNat,reduceCtorEq,Nat.reduceBEq,Nat.reduceBNe,Qk,Qe,Value.cells,am,mm,keep, aint, lv, ae]; refine hK_ _ _ ?_; clear hK_ K_; repeat first | refine QL ?_ | refine QM ?_)))
  repeat first | refine Qo ?_ | refine Qn ?_
  refine awp_forK [0] (fun x : Nat × ByteArray × AH => [(6, I64 x.1), (5, .string x.2.1)]) (fun x : Nat × ByteArray × AH => x.2.2) (fun x : Nat × ByteArray × AH => x.1 ≤ l.length ∧ x.2.1 = txL (l.take x.1).reverse (errS e) ∧ Ext H x.2.2) (fun x : Nat × ByteArray × AH => l.length - x.1) ((0, errS e, H1)) (⟨Nat.zero_le _, rfl, e1⟩) (by repeat first | exact Forgets.nil | refine Forgets.cons (by first | (simp only [look, ↓reduceIte, Nat.reduceEqDiff]; done) | (simp only [look, ↓reduceIte, Nat.reduceEqDiff]; rfl) | simp [look]) ?_) rfl ?_
  rintro ⟨i, s, H2⟩ ⟨hi, hs, x2⟩
  simp only [] at hi hs x2 ⊢
  by_cases hlt : i < l.length
  · obtain ⟨g, o, e', cs, hve, hcs, hcc, hlen⟩ := hv.at (lyc_hl l) i hlt
    cases hve
    have hts := txL_snoc l i hlt (errS e)
    rw [← hs] at hts
    have hxs := hsm l[i] (List.getElem_mem hlt)
    have hss : s.size ≤ 40000 := by
      have := txL_size (l.take i).reverse (errS e) (fun x hx => hsm x (List.mem_of_mem_take (List.mem_reverse.1 hx)))
      rw [List.length_reverse, List.length_take] at this
      rw [hs]
      omega
    generalize l[i] = x at *
    have hcs2 := x2.cells hcs
    obtain ⟨x0, x1⟩ := lyc_at hcc
    have s1 : (⟨#[32]⟩ : ByteArray).size = 1 := rfl
    have s2 : (⟨#[58, 32]⟩ : ByteArray).size = 2 := rfl
    have a1 := add_str (a := x.1) (b := ⟨#[32]⟩) (by omega)
    have a2 := add_str (a := x.1 ++ ⟨#[32]⟩) (b := x.2) (by rw [ba_size]; omega)
    have a3 := add_str (a := (x.1 ++ ⟨#[32]⟩) ++ x.2) (b := ⟨#[58, 32]⟩) (by rw [ba_size, ba_size]; omega)
    have a4 := add_str (a := ((x.1 ++ ⟨#[32]⟩) ++ x.2) ++ ⟨#[58, 32]⟩) (b := s) (by rw [ba_size, ba_size, ba_size]; omega)
    rw [← hts] at a4
    have hii : IntKind.i64.wrap ((i : Int) + 1) = (i : Int) + 1 := wi64 _ (by omega) (by omega)
    iterate 1 ((repeat first | refine Qo ?_ | refine Qn ?_); (first | (refine QK (by kernel_rfl) ?_; intro K_ hK_; simp -implicitDefEqProofs (disch := (try simp only [sl]); try omega) only [sm,QJ,Qj,Qi,Qq,QC,bd,look,aput,QI,abin,anil,ty,↓reduceIte,Nat.reduceEqDiff,Nat.reduceAdd,Nat.reduceSub,Nat.reduceMul,Int.reduceLT,Int.reduceLE,Int.reduceNeg,Int.reduceToNat,reduceCtorEq,Nat.reduceBEq,Nat.reduceBNe,Qk,Qe,Value.cells,am,mm,keep, aint, lv, hcs2, hcc, hlen, x0, x1, a1, a2, a3, a4, hlt]; refine hK_ _ _ ?_; clear hK_ K_; repeat first | refine QL ?_ | refine QM ?_)))
    repeat first | refine Qo ?_ | refine Qn ?_
    refine awp_if true rfl (by first | (simp only [aeval_tmp, look, ↓reduceIte, Nat.reduceEqDiff]; try rfl) | rfl) (fun _ => ?_) (fun h => absurd h (by decide))
    iterate 1 ((repeat first | refine Qo ?_ | refine Qn ?_); (first | (refine awp_skip ?_; repeat first | refine QL ?_ | refine QM ?_)))
    iterate 1 ((repeat first | refine Qo ?_ | refine Qn ?_); (first | (refine awp_region_drawK (id := 5) [(0, []), (1, []), (2, []), (3, []), (4, []), (5, []), (6, []), (7, []), (8, []), (9, []), (10, []), (11, []), (12, []), (13, []), (14, []), (15, [])] mixed (by kernel_rfl) ?_; intro K_ hK_; simp -implicitDefEqProofs (disch := (try simp only [sl]); try omega) only [sm,aSel,Qu,Qv,Qw,Qx,Qy,Qj,Qi,Qq,QC,Qz,bd,QF,look,aput,QI,abin,anil,Qb,Qc,QA,ty,↓reduceIte,Nat.reduceEqDiff,Nat.reduceAdd,Nat.reduceSub,Nat.reduceMul,Int.reduceLT,Int.reduceLE,Int.reduceNeg,Int.reduceToNat,reduceCtorEq,Nat.reduceBEq,Nat.reduceBNe,Qk,Qe,Value.cells,am,mm,keep, aint, lv, hcs2, hcc, hlen, x0, x1, a1, a2, a3, a4, hlt]; refine hK_ _ _ ?_; clear hK_ K_; repeat first | refine QL ?_ | refine QM ?_)))
    iterate 1 ((repeat first | refine Qo ?_ | refine Qn ?_); (first | (refine QK (by kernel_rfl) ?_; intro K_ hK_; simp -implicitDefEqProofs (disch := (try simp only [sl]); try omega) only [sm,QJ,Qj,Qi,Qq,QC,bd,look,aput,QI,abin,anil,ty,↓reduceIte,Nat.reduceEqDiff,Nat.reduceAdd,Nat.reduceSub,Nat.reduceMul,Int.reduceLT,Int.reduceLE,Int.reduceNeg,Int.reduceToNat,reduceCtorEq,Nat.reduceBEq,Nat.reduceBNe,Qk,Qe,Value.cells,am,mm,keep, aint, lv, hcs2, hcc, hlen, x0, x1, a1, a2, a3, a4, hii]; refine hK_ _ _ ?_; clear hK_ K_; repeat first | refine QL ?_ | refine QM ?_)))
    refine ⟨(i + 1, txL (l.take (i + 1)).reverse (errS e), H2), ⟨by simp only []; omega, rfl, x2⟩, (by repeat first | exact Forgets.nil | refine Forgets.cons (by first | (simp only [look, ↓reduceIte, Nat.reduceEqDiff]; done) | (simp only [look, ↓reduceIte, Nat.reduceEqDiff]; rfl) | simp [look, hii]) ?_), ?_⟩
    first | omega | exact ⟨rfl, by omega⟩ | exact ⟨rfl, by simp only []; omega⟩ | (simp only []; omega)
  · obtain rfl : i = l.length := by omega
    rw [List.take_length] at hs
    iterate 1 ((repeat first | refine Qo ?_ | refine Qn ?_); (first | (refine QK (by kernel_rfl) ?_; intro K_ hK_; simp -implicitDefEqProofs (disch := (try simp only [sl]); try omega) only [sm,QJ,Qj,Qi,Qq,QC,bd,look,aput,QI,abin,anil,ty,↓reduceIte,Nat.reduceEqDiff,Nat.reduceAdd,Nat.reduceSub,Nat.reduceMul,Int.reduceLT,Int.reduceLE,Int.reduceNeg,Int.reduceToNat,reduceCtorEq,Nat.reduceBEq,Nat.reduceBNe,Qk,Qe,Value.cells,am,mm,keep, aint, lv, hlt]; refine hK_ _ _ ?_; clear hK_ K_; repeat first | refine QL ?_ | refine QM ?_)))
    repeat first | refine Qo ?_ | refine Qn ?_
    refine awp_if false rfl (by first | (simp only [aeval_tmp, look, ↓reduceIte, Nat.reduceEqDiff]; try rfl) | rfl) (fun h => absurd h (by decide)) (fun _ => ?_)
    iterate 2 ((repeat first | refine Qo ?_ | refine Qn ?_); (first | (refine QK (by kernel_rfl) ?_; intro K_ hK_; simp -implicitDefEqProofs (disch := (try simp only [sl]); try omega) only [sm,QJ,Qj,Qi,Qq,QC,bd,look,aput,ty,↓reduceIte,Nat.reduceEqDiff,Nat.reduceAdd,Nat.reduceSub,Nat.reduceMul,Int.reduceLT,Int.reduceLE,Int.reduceNeg,Int.reduceToNat,reduceCtorEq,Nat.reduceBEq,Nat.reduceBNe,Qk,Qe,Value.cells,am,mm,keep, aint, lv]; refine hK_ _ _ ?_; clear hK_ K_; repeat first | refine QL ?_ | refine QM ?_) | (refine awp_exit ?_; (repeat first | refine aThen_exit ?_ | refine aIn_out rfl ?_); refine aIn_here ?_; repeat first | refine QL ?_ | refine QM ?_)))
    first | refine awp_ret ?_ | skip
    show ∃ v, aresults Tryd.prog Tryd.f17 _ _ = some v ∧ _
    rw [aresults_1 (r := .tmp 4) (by kernel_rfl)]
    simp -implicitDefEqProofs (disch := (try simp only [sl]); try omega) only [aresult, Option.some.injEq, exists_eq_left', sm,Qj,Qi,Qq,QC,Qz,bd,QF,look,aput,QB,Qf,QA,ty,↓reduceIte,Nat.reduceEqDiff,Nat.reduceAdd,Nat.reduceSub,Nat.reduceMul,Int.reduceLT,Int.reduceLE,Int.reduceNeg,Int.reduceToNat,reduceCtorEq,Nat.reduceBEq,Nat.reduceBNe,Qk,Qe,Value.cells,am,mm,keep, aint, lv]
    rw [hs]
    exact ⟨rfl, x2⟩
end Go.Proofs.YtldfnfpinemedaaDoor
