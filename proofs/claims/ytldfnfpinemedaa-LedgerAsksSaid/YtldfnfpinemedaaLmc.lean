/- ledger: Of. -/
import Derived.Test.YtldfnfpinemedaaLmb
import Derived.Test.YtldfnfpinemedaaOsn
namespace Go.Proofs.Ytldfnfpinemedaa
open Go Go.RowKit
--hide
set_option linter.unusedSimpArgs false
set_option linter.unusedVariables false
set_option maxRecDepth 4000
def ofU (l : List Us) (e : Int) : List Int := l.filterMap fun u => if u.1 = e then some u.2 else none
def ofL (L : List Rn) (e : Int) : List Int := ofU (expR L) e
def ofP (r : Rn) (e : Int) (j : Nat) : List Int := if r.1 = e then (List.range j).map fun (k : Nat) => r.2.1 + (k : Int) else []
abbrev iv (x : Int) : Value := .int .i64 x
theorem iv_cellv (l : List Int) : (l.map iv).all cellv = true := by simp [iv, cellv]
theorem ofP_one (r : Rn) (e : Int) : ofU (exp1 r) e = ofP r e r.2.2.toNat := by
  unfold ofU ofP exp1
  rw [List.filterMap_map]
  by_cases h : r.1 = e
  · rw [if_pos h]
    rw [← List.filterMap_eq_map]
    congr 1
    funext k
    simp [h]
  · rw [if_neg h]
    rw [List.filterMap_eq_nil_iff]
    intro k _
    simp [h]
theorem ofL_snoc (L : List Rn) (r : Rn) (e : Int) : ofL (L ++ [r]) e = ofL L e ++ ofP r e r.2.2.toNat := by
  unfold ofL
  rw [← ofP_one]
  unfold expR ofU
  rw [List.map_append, List.flatten_append, List.filterMap_append]
  simp
theorem ofP_succ {r : Rn} {e : Int} (h : r.1 = e) (j : Nat) : ofP r e (j + 1) = ofP r e j ++ [r.2.1 + (j : Int)] := by
  unfold ofP
  rw [if_pos h, if_pos h, List.range_succ, List.map_append]
  rfl
theorem ofP_none {r : Rn} {e : Int} (h : ¬ r.1 = e) (j : Nat) : ofP r e j = [] := by
  unfold ofP
  rw [if_neg h]
theorem ofP_zero (r : Rn) (e : Int) : ofP r e 0 = [] := by
  unfold ofP
  split <;> rfl
theorem ofL_len {L : List Rn} (hc : ∀ r ∈ L, okR r) (e : Int) : ((ofL L e).length : Int) ≤ sumR L := by
  rw [← exp_len hc]
  have := List.length_filterMap_le (fun u : Us => if u.1 = e then some u.2 else none) (expR L)
  unfold ofL ofU
  omega
set_option maxHeartbeats 16000000 in
theorem of_calls (p b0 : Nat) (w : Value) (L : List Rn) (e : Int) (H : AH) (h : LdI b0 p H w L) (hc : ∀ r ∈ L, okR r) (hm : sumR L ≤ 1000) :
    ACalls Try.prog 32 #[.pointer (some ⟨p, 0, none⟩), .int .u32 e] H fun v H' => OSn 1 H.length H' v (ofL L e).length ((ofL L e).map iv) ∧ Ext H H' := by
  have hfew := run_few hc
  have hel : elemT Try.prog 71 = some (1, 8) := by simp only [ty]
  have hsl : sliceT Try.prog 71 = true := by simp only [ty]
  have fo_ : True := trivial
  have N_ := Now.start H
  have f_ := N_.has
  simp only [Has] at f_
  refine acalls_of_body Try.func32 rfl Try.ntmps32 (by simp) ?_
  simp only [argsT, Nat.reduceAdd]
  iterate 2 ((repeat first | refine Qo ?_ | refine Qn ?_); (first | (refine QK (by kernel_rfl) ?_; intro K_ hK_; simp -implicitDefEqProofs (disch := (try simp only [sl]); try omega) only [sm,QJ,Qj,Qi,Qq,QC,bd,look,aput,Qm,ty,↓reduceIte,Nat.reduceEqDiff,Nat.reduceAdd,Nat.reduceSub,Nat.reduceMul,Int.reduceLT,Int.reduceLE,Int.reduceNeg,Int.reduceToNat,reduceCtorEq,Nat.reduceBEq,Nat.reduceBNe,Qk,Qe,Value.cells,am,mm,keep, f_, fo_, aint]; refine hK_ _ _ ?_; clear hK_ K_; repeat first | refine QL ?_ | refine QM ?_)))
  (repeat first | refine Qo ?_ | refine Qn ?_); refine QK (by kernel_rfl) ?_; intro K_ hK_; simp -implicitDefEqProofs (disch := (try simp only [sl]); try omega) only [sm,QJ,Qj,Qi,Qq,QC,bd,look,aput,Qm,ty,↓reduceIte,Nat.reduceEqDiff,Nat.reduceAdd,Nat.reduceSub,Nat.reduceMul,Int.reduceLT,Int.reduceLE,Int.reduceNeg,Int.reduceToNat,reduceCtorEq,Nat.reduceBEq,Nat.reduceBNe,Qk,Qe,Value.cells,am,mm,keep, f_, fo_, aint]
  refine ACalls.mono (runs_calls p b0 w L H h (by omega)) ?_
  rintro v H1 ⟨o1, e1⟩
  have hv := o1.sln
  have lv := alen_slnU (P := Try.prog) (T := 38) (by simp only [ty]) hv
  replace N_ := N_.grow e1
  clear fo_; have fo_ := f_; clear f_
  have f_ := N_.has
  simp only [Has] at f_
  try simp -implicitDefEqProofs (disch := (try simp only [sl]); try omega) only [sm,QJ,Qj,Qi,Qq,QC,bd,look,aput,Qm,ty,↓reduceIte,Nat.reduceEqDiff,Nat.reduceAdd,Nat.reduceSub,Nat.reduceMul,Int.reduceLT,Int.reduceLE,Int.reduceNeg,Int.reduceToNat,reduceCtorEq,Nat.reduceBEq,Nat.reduceBNe,Qk,Qe,Value.cells,am,mm,keep, f_, fo_, aint, lv]
  try (refine hK_ _ _ ?_; clear hK_ K_; repeat first | refine QL ?_ | refine QM ?_)
  repeat first | refine Qo ?_ | refine Qn ?_
  refine awp_forK [1, 10, 11] (fun x : Nat × Value × AH => [(12, I64 x.1), (5, x.2.1)]) (fun x : Nat × Value × AH => x.2.2) (fun x : Nat × Value × AH => x.1 ≤ L.length ∧ OSn 1 H1.length x.2.2 x.2.1 (ofL (L.take x.1) e).length ((ofL (L.take x.1) e).map iv) ∧ Ext H1 x.2.2) (fun x : Nat × Value × AH => L.length - x.1) ((0, .slice none 0 0, H1)) (⟨Nat.zero_le _, .inl ⟨rfl, rfl, rfl⟩, Ext.refl _⟩) (by repeat first | exact Forgets.nil | refine Forgets.cons (by first | (simp only [look, ↓reduceIte, Nat.reduceEqDiff]; done) | (simp only [look, ↓reduceIte, Nat.reduceEqDiff]; rfl) | simp [look]) ?_) rfl ?_
  rintro ⟨i, s, H2⟩ ⟨hi, o2, x2⟩
  simp only [] at hi o2 x2 ⊢
  clear f_ fo_ N_
  have N_ : Now H H2 [] := ⟨e1.trans x2, trivial⟩
  have f_ := N_.has
  simp only [Has] at f_
  have fo_ := True.intro
  by_cases hlt : i < L.length
  · obtain ⟨g, o, e', cs, hve, hcs, hcc, hlen⟩ := hv.at (ruc_hl L) i hlt
    cases hve
    have hts : ofL (L.take (i + 1)) e = ofL (L.take i) e ++ ofP L[i] e L[i].2.2.toNat := by
      rw [List.take_succ_eq_append_getElem hlt, ofL_snoc]
    have hle := ofL_len (L := L.take i) (fun r hr => hc r (List.mem_of_mem_take hr)) e
    have hle2 := sumR_take hc i
    have hxo := hc _ (List.getElem_mem hlt)
    generalize L[i] = x at *
    have hx1 : 1 ≤ x.1 ∧ 0 ≤ x.2.1 ∧ 1 ≤ x.2.2 ∧ x.2.1 + x.2.2 ≤ 65536 := hxo
    have hcs2 := x2.cells hcs
    have xl := ruc_length x
    have xc := ruc_cellv x
    have xt := ruc_take x
    have r0 := ruc_0 x
    have r1 := ruc_1 x
    have r2 := ruc_2 x
    have xo := ruc_ovr (0, 0, 0) x
    have zl := ruc_length (0, 0, 0)
    have hii : IntKind.i64.wrap ((i : Int) + 1) = (i : Int) + 1 := wi64 _ (by omega) (by omega)
    iterate 1 ((repeat first | refine Qo ?_ | refine Qn ?_); (first | (refine QK (by kernel_rfl) ?_; intro K_ hK_; simp -implicitDefEqProofs (disch := (try simp only [sl]); try omega) only [sm,QJ,Qj,Qi,Qq,QC,bd,look,aput,QI,abin,anil,ty,↓reduceIte,Nat.reduceEqDiff,Nat.reduceAdd,Nat.reduceSub,Nat.reduceMul,Int.reduceLT,Int.reduceLE,Int.reduceNeg,Int.reduceToNat,reduceCtorEq,Nat.reduceBEq,Nat.reduceBNe,Qk,Qe,Value.cells,am,mm,keep, f_, fo_, aint, lv, hcs2, hcc, hlen, xl, xc, xt, r0, r1, r2, xo, zl, zR, hlt]; refine hK_ _ _ ?_; clear hK_ K_; repeat first | refine QL ?_ | refine QM ?_)))
    repeat first | refine Qo ?_ | refine Qn ?_
    refine awp_if true rfl (by first | (simp only [aeval_tmp, look, ↓reduceIte, Nat.reduceEqDiff]; try rfl) | rfl) (fun _ => ?_) (fun h => absurd h (by decide))
    iterate 2 ((repeat first | refine Qo ?_ | refine Qn ?_); (first | (refine QK (by kernel_rfl) ?_; intro K_ hK_; simp -implicitDefEqProofs (disch := (try simp only [sl]); try omega) only [sm,QJ,Qj,Qi,Qq,QC,Qz,bd,QF,look,aput,Qm,Qb,QA,ty,↓reduceIte,Nat.reduceEqDiff,Nat.reduceAdd,Nat.reduceSub,Nat.reduceMul,Int.reduceLT,Int.reduceLE,Int.reduceNeg,Int.reduceToNat,reduceCtorEq,Nat.reduceBEq,Nat.reduceBNe,Qk,Qe,Value.cells,am,mm,keep, f_, fo_, aint, lv, hcs2, hcc, hlen, xl, xc, xt, r0, r1, r2, xo, zl, zR, hlt]; refine hK_ _ _ ?_; clear hK_ K_; repeat first | refine QL ?_ | refine QM ?_) | (refine awp_skip ?_; repeat first | refine QL ?_ | refine QM ?_)))
    first | refine AWp.snap8 N_ ?_ | refine AWp.snap7 N_ ?_ | refine AWp.snap6 N_ ?_ | refine AWp.snap5 N_ ?_ | refine AWp.snap4 N_ ?_ | refine AWp.snap3 N_ ?_ | refine AWp.snap2 N_ ?_ | refine AWp.snap1 N_ ?_
    clear fo_; have fo_ := f_; clear f_ N_; intro H3 xH3 lH3 N_
    have f_ := N_.has
    simp only [Has] at f_
    have kq := f_.1.2.1
    have x13 : Ext H1 H3 := x2.trans xH3
    have hsf := o2.fresh (Nat.le_refl _)
    generalize ofL (L.take i) e = A at *
    obtain ⟨m, hm2⟩ : ∃ m : Nat, x.2.2 = (m : Int) := ⟨x.2.2.toNat, by omega⟩
    rw [hm2, Int.toNat_natCast] at hts
    have r2' : (ruc x)[2]? = some (I64 m) := by rw [r2, hm2]
    have o3 := o2.mono xH3
    clear f_ fo_ N_
    have fo_ := True.intro
    have f_ := True.intro
    have ck := AH.cells_own kq
    iterate 1 ((repeat first | refine Qo ?_ | refine Qn ?_); (first | (refine QK (by kernel_rfl) ?_; intro K_ hK_; simp -implicitDefEqProofs (disch := (try simp only [sl]); try omega) only [sm,QJ,Qj,Qi,Qq,QC,Qz,bd,QF,look,aput,Qc,QA,ty,↓reduceIte,Nat.reduceEqDiff,Nat.reduceAdd,Nat.reduceSub,Nat.reduceMul,Int.reduceLT,Int.reduceLE,Int.reduceNeg,Int.reduceToNat,reduceCtorEq,Nat.reduceBEq,Nat.reduceBNe,Qk,Qe,Value.cells,am,mm,keep, f_, fo_, aint, lv, ck, xl, xc, xt, r0, r1, r2']; refine hK_ _ _ ?_; clear hK_ K_; repeat first | refine QL ?_ | refine QM ?_)))
    repeat first | refine Qo ?_ | refine Qn ?_
    refine awp_forK [1, 7, 10, 11, 12, 17] (fun y : Nat × Value × AH => [(18, I64 y.1), (5, y.2.1)]) (fun y : Nat × Value × AH => y.2.2) (fun y : Nat × Value × AH => y.1 ≤ m ∧ OSn 1 H1.length y.2.2 y.2.1 (A ++ ofP x e y.1).length ((A ++ ofP x e y.1).map iv) ∧ Ext H1 y.2.2 ∧ y.2.2[H2.length]? = some (.own (ruc x)) ∧ ∀ o m e, y.2.1 ≠ .slice (some ⟨H2.length, o, none⟩) m e) (fun y : Nat × Value × AH => m - y.1) ((0, s, H3)) (⟨Nat.zero_le _, by simp only [ofP_zero, List.append_nil]; exact o3, x13, kq, hsf⟩) (by repeat first | exact Forgets.nil | refine Forgets.cons (by first | (simp only [look, ↓reduceIte, Nat.reduceEqDiff]; done) | (simp only [look, ↓reduceIte, Nat.reduceEqDiff]; rfl) | simp [look]) ?_) rfl ?_
    rintro ⟨j, s', H4⟩ ⟨hj, o4, x4, k4, n4⟩
    simp only [] at hj o4 x4 k4 n4 ⊢
    have c4 := AH.cells_own k4
    by_cases hjl : j < m
    · have hjl' : ((j : Int) < (m : Int)) := by omega
      have hjj : IntKind.i64.wrap ((j : Int) + 1) = (j : Int) + 1 := wi64 _ (by omega) (by omega)
      by_cases he : x.1 = e
      · have e1' : (x.1 == e) = true := by rw [beq_iff_eq]; exact he
        have hw : IntKind.i64.wrap (x.2.1 + (j : Int)) = x.2.1 + (j : Int) := wi64 _ (by omega) (by omega)
        have hpl : (ofP x e j).length = j := by unfold ofP; rw [if_pos he]; simp
        obtain ⟨s5, H5, ha5, o5, ke5, on5⟩ := OSn.app1 (P := Try.prog) (t := 71) (tx := 71) (bytes := 8) (c := [iv (x.2.1 + (j : Int))]) hel hsl o4 (by simp) rfl rfl (by decide) (by rw [List.length_append]; omega) (by rw [List.length_append]; omega) x4.length
        have hlt4 := own_lt k4
        have x5 : Ext H1 H5 := ke5.ext (Nat.le_refl _) x4
        have k5 := on5 _ _ n4 k4
        have n5 : ∀ o m e, s5 ≠ .slice (some ⟨H2.length, o, none⟩) m e := fun o m e k => by have := (o5.lt _ _ _ _ k).2; omega
        have hsn : (A ++ ofP x e (j + 1)).map iv = (A ++ ofP x e j).map iv ++ [iv (x.2.1 + (j : Int))] := by rw [ofP_succ he]; simp
        have hsl2 : (A ++ ofP x e (j + 1)).length = (A ++ ofP x e j).length + 1 := by rw [ofP_succ he]; simp; omega
        iterate 1 ((repeat first | refine Qo ?_ | refine Qn ?_); (first | (refine QK (by kernel_rfl) ?_; intro K_ hK_; simp -implicitDefEqProofs (disch := (try simp only [sl]); try omega) only [sm,QJ,Qj,Qi,Qq,QC,bd,look,aput,QI,abin,anil,ty,↓reduceIte,Nat.reduceEqDiff,Nat.reduceAdd,Nat.reduceSub,Nat.reduceMul,Int.reduceLT,Int.reduceLE,Int.reduceNeg,Int.reduceToNat,reduceCtorEq,Nat.reduceBEq,Nat.reduceBNe,Qk,Qe,Value.cells,am,mm,keep, aint, c4, xl, xc, xt, r0, r1, r2', e1', hw, bda, ha5, hjl']; refine hK_ _ _ ?_; clear hK_ K_; repeat first | refine QL ?_ | refine QM ?_)))
        repeat first | refine Qo ?_ | refine Qn ?_
        refine awp_if true rfl (by first | (simp only [aeval_tmp, look, ↓reduceIte, Nat.reduceEqDiff]; try rfl) | rfl) (fun _ => ?_) (fun h => absurd h (by decide))
        iterate 3 ((repeat first | refine Qo ?_ | refine Qn ?_); (first | (refine QK (by kernel_rfl) ?_; intro K_ hK_; simp -implicitDefEqProofs (disch := (try simp only [sl]); try omega) only [sm,QJ,Qj,Qi,Qq,QC,Qz,bd,QF,look,aput,QI,abin,anil,Qc,QA,ty,↓reduceIte,Nat.reduceEqDiff,Nat.reduceAdd,Nat.reduceSub,Nat.reduceMul,Int.reduceLT,Int.reduceLE,Int.reduceNeg,Int.reduceToNat,reduceCtorEq,Nat.reduceBEq,Nat.reduceBNe,Qk,Qe,Value.cells,am,mm,keep, aint, c4, xl, xc, xt, r0, r1, r2', e1', hw, bda, ha5]; refine hK_ _ _ ?_; clear hK_ K_; repeat first | refine QL ?_ | refine QM ?_) | (refine awp_skip ?_; repeat first | refine QL ?_ | refine QM ?_)))
        repeat first | refine Qo ?_ | refine Qn ?_
        refine awp_if true rfl (by first | (simp only [aeval_tmp, look, ↓reduceIte, Nat.reduceEqDiff]; try rfl) | rfl) (fun _ => ?_) (fun h => absurd h (by decide))
        iterate 2 ((repeat first | refine Qo ?_ | refine Qn ?_); (first | (refine QK (by kernel_rfl) ?_; intro K_ hK_; simp -implicitDefEqProofs (disch := (try simp only [sl]); try omega) only [sm,QJ,Qj,Qi,Qq,QC,Qz,bd,QF,look,aput,Qm,QI,abin,anil,Qc,QA,ty,↓reduceIte,Nat.reduceEqDiff,Nat.reduceAdd,Nat.reduceSub,Nat.reduceMul,Int.reduceLT,Int.reduceLE,Int.reduceNeg,Int.reduceToNat,reduceCtorEq,Nat.reduceBEq,Nat.reduceBNe,Qk,Qe,Value.cells,am,mm,keep, aint, c4, xl, xc, xt, r0, r1, r2', e1', hw, bda, ha5, hjj]; refine hK_ _ _ ?_; clear hK_ K_; repeat first | refine QL ?_ | refine QM ?_)))
        refine ⟨(j + 1, s5, H5), ⟨by simp only []; omega, by simp only []; rw [hsn, hsl2]; exact o5.low x4.length, x5, k5, n5⟩, (by repeat first | exact Forgets.nil | refine Forgets.cons (by first | (simp only [look, ↓reduceIte, Nat.reduceEqDiff]; done) | (simp only [look, ↓reduceIte, Nat.reduceEqDiff]; rfl) | simp [look, hjj]) ?_), ?_⟩
        first | omega | exact ⟨rfl, by omega⟩ | exact ⟨rfl, by simp only []; omega⟩ | (simp only []; omega)
      · have e1' : (x.1 == e) = false := by rw [beq_eq_false_iff_ne]; exact he
        iterate 1 ((repeat first | refine Qo ?_ | refine Qn ?_); (first | (refine QK (by kernel_rfl) ?_; intro K_ hK_; simp -implicitDefEqProofs (disch := (try simp only [sl]); try omega) only [sm,QJ,Qj,Qi,Qq,QC,bd,look,aput,QI,abin,anil,ty,↓reduceIte,Nat.reduceEqDiff,Nat.reduceAdd,Nat.reduceSub,Nat.reduceMul,Int.reduceLT,Int.reduceLE,Int.reduceNeg,Int.reduceToNat,reduceCtorEq,Nat.reduceBEq,Nat.reduceBNe,Qk,Qe,Value.cells,am,mm,keep, aint, c4, xl, xc, xt, r0, r1, r2', e1', hjl']; refine hK_ _ _ ?_; clear hK_ K_; repeat first | refine QL ?_ | refine QM ?_)))
        repeat first | refine Qo ?_ | refine Qn ?_
        refine awp_if true rfl (by first | (simp only [aeval_tmp, look, ↓reduceIte, Nat.reduceEqDiff]; try rfl) | rfl) (fun _ => ?_) (fun h => absurd h (by decide))
        iterate 3 ((repeat first | refine Qo ?_ | refine Qn ?_); (first | (refine QK (by kernel_rfl) ?_; intro K_ hK_; simp -implicitDefEqProofs (disch := (try simp only [sl]); try omega) only [sm,QJ,Qj,Qi,Qq,QC,Qz,bd,QF,look,aput,QI,abin,anil,Qc,QA,ty,↓reduceIte,Nat.reduceEqDiff,Nat.reduceAdd,Nat.reduceSub,Nat.reduceMul,Int.reduceLT,Int.reduceLE,Int.reduceNeg,Int.reduceToNat,reduceCtorEq,Nat.reduceBEq,Nat.reduceBNe,Qk,Qe,Value.cells,am,mm,keep, aint, c4, xl, xc, xt, r0, r1, r2', e1']; refine hK_ _ _ ?_; clear hK_ K_; repeat first | refine QL ?_ | refine QM ?_) | (refine awp_skip ?_; repeat first | refine QL ?_ | refine QM ?_)))
        repeat first | refine Qo ?_ | refine Qn ?_
        refine awp_if false rfl (by first | (simp only [aeval_tmp, look, ↓reduceIte, Nat.reduceEqDiff]; try rfl) | rfl) (fun h => absurd h (by decide)) (fun _ => ?_)
        iterate 2 ((repeat first | refine Qo ?_ | refine Qn ?_); (first | (refine QK (by kernel_rfl) ?_; intro K_ hK_; simp -implicitDefEqProofs (disch := (try simp only [sl]); try omega) only [sm,QJ,Qj,Qi,Qq,QC,bd,look,aput,QI,abin,anil,ty,↓reduceIte,Nat.reduceEqDiff,Nat.reduceAdd,Nat.reduceSub,Nat.reduceMul,Int.reduceLT,Int.reduceLE,Int.reduceNeg,Int.reduceToNat,reduceCtorEq,Nat.reduceBEq,Nat.reduceBNe,Qk,Qe,Value.cells,am,mm,keep, aint, c4, xl, xc, xt, r0, r1, r2', e1', hjj]; refine hK_ _ _ ?_; clear hK_ K_; repeat first | refine QL ?_ | refine QM ?_) | (refine awp_skip ?_; repeat first | refine QL ?_ | refine QM ?_)))
        refine ⟨(j + 1, s', H4), ⟨by simp only []; omega, by simp only []; rw [ofP_none he] at o4 ⊢; exact o4, x4, k4, n4⟩, (by repeat first | exact Forgets.nil | refine Forgets.cons (by first | (simp only [look, ↓reduceIte, Nat.reduceEqDiff]; done) | (simp only [look, ↓reduceIte, Nat.reduceEqDiff]; rfl) | simp [look, hjj]) ?_), ?_⟩
        first | omega | exact ⟨rfl, by omega⟩ | exact ⟨rfl, by simp only []; omega⟩ | (simp only []; omega)
    obtain rfl : j = m := by omega
    have hjl' : ¬ ((j : Int) < (j : Int)) := by omega
    iterate 1 ((repeat first | refine Qo ?_ | refine Qn ?_); (first | (refine QK (by kernel_rfl) ?_; intro K_ hK_; simp -implicitDefEqProofs (disch := (try simp only [sl]); try omega) only [sm,QJ,Qj,Qi,Qq,QC,bd,look,aput,QI,abin,anil,ty,↓reduceIte,Nat.reduceEqDiff,Nat.reduceAdd,Nat.reduceSub,Nat.reduceMul,Int.reduceLT,Int.reduceLE,Int.reduceNeg,Int.reduceToNat,reduceCtorEq,Nat.reduceBEq,Nat.reduceBNe,Qk,Qe,Value.cells,am,mm,keep, aint, c4, hjl']; refine hK_ _ _ ?_; clear hK_ K_; repeat first | refine QL ?_ | refine QM ?_)))
    repeat first | refine Qo ?_ | refine Qn ?_
    refine awp_if false rfl (by first | (simp only [aeval_tmp, look, ↓reduceIte, Nat.reduceEqDiff]; try rfl) | rfl) (fun h => absurd h (by decide)) (fun _ => ?_)
    iterate 2 ((repeat first | refine Qo ?_ | refine Qn ?_); (first | (refine QK (by kernel_rfl) ?_; intro K_ hK_; simp -implicitDefEqProofs (disch := (try simp only [sl]); try omega) only [sm,QJ,Qj,Qi,Qq,QC,bd,look,aput,QI,abin,anil,ty,↓reduceIte,Nat.reduceEqDiff,Nat.reduceAdd,Nat.reduceSub,Nat.reduceMul,Int.reduceLT,Int.reduceLE,Int.reduceNeg,Int.reduceToNat,reduceCtorEq,Nat.reduceBEq,Nat.reduceBNe,Qk,Qe,Value.cells,am,mm,keep, aint, c4, hii]; refine hK_ _ _ ?_; clear hK_ K_; repeat first | refine QL ?_ | refine QM ?_) | (refine awp_exit ?_; (repeat first | refine aThen_exit ?_ | refine aIn_out rfl ?_); refine aIn_here ?_; repeat first | refine QL ?_ | refine QM ?_)))
    refine ⟨(i + 1, s', H4), ⟨by simp only []; omega, by simp only []; rw [hts]; exact o4, x4⟩, (by repeat first | exact Forgets.nil | refine Forgets.cons (by first | (simp only [look, ↓reduceIte, Nat.reduceEqDiff]; done) | (simp only [look, ↓reduceIte, Nat.reduceEqDiff]; rfl) | simp [look, hii]) ?_), ?_⟩
    first | omega | exact ⟨rfl, by omega⟩ | exact ⟨rfl, by simp only []; omega⟩ | (simp only []; omega)
  obtain rfl : i = L.length := by omega
  rw [List.take_length] at o2
  iterate 1 ((repeat first | refine Qo ?_ | refine Qn ?_); (first | (refine QK (by kernel_rfl) ?_; intro K_ hK_; simp -implicitDefEqProofs (disch := (try simp only [sl]); try omega) only [sm,QJ,Qj,Qi,Qq,QC,bd,look,aput,QI,abin,anil,ty,↓reduceIte,Nat.reduceEqDiff,Nat.reduceAdd,Nat.reduceSub,Nat.reduceMul,Int.reduceLT,Int.reduceLE,Int.reduceNeg,Int.reduceToNat,reduceCtorEq,Nat.reduceBEq,Nat.reduceBNe,Qk,Qe,Value.cells,am,mm,keep, f_, fo_, aint, lv, hlt]; refine hK_ _ _ ?_; clear hK_ K_; repeat first | refine QL ?_ | refine QM ?_)))
  repeat first | refine Qo ?_ | refine Qn ?_
  refine awp_if false rfl (by first | (simp only [aeval_tmp, look, ↓reduceIte, Nat.reduceEqDiff]; try rfl) | rfl) (fun h => absurd h (by decide)) (fun _ => ?_)
  iterate 2 ((repeat first | refine Qo ?_ | refine Qn ?_); (first | (refine QK (by kernel_rfl) ?_; intro K_ hK_; simp -implicitDefEqProofs (disch := (try simp only [sl]); try omega) only [sm,QJ,Qj,Qi,Qq,QC,bd,look,aput,ty,↓reduceIte,Nat.reduceEqDiff,Nat.reduceAdd,Nat.reduceSub,Nat.reduceMul,Int.reduceLT,Int.reduceLE,Int.reduceNeg,Int.reduceToNat,reduceCtorEq,Nat.reduceBEq,Nat.reduceBNe,Qk,Qe,Value.cells,am,mm,keep, f_, fo_, aint, lv]; refine hK_ _ _ ?_; clear hK_ K_; repeat first | refine QL ?_ | refine QM ?_) | (refine awp_exit ?_; (repeat first | refine aThen_exit ?_ | refine aIn_out rfl ?_); refine aIn_here ?_; repeat first | refine QL ?_ | refine QM ?_)))
  first | refine awp_ret ?_ | skip
  show ∃ v, aresults Try.prog Try.f32 _ _ = some v ∧ _
  rw [aresults_1 (r := .tmp 4) (by kernel_rfl)]
  simp -implicitDefEqProofs (disch := (try simp only [sl]); try omega) only [aresult, Option.some.injEq, exists_eq_left', sm,Qj,Qi,Qq,QC,Qz,bd,QF,look,aput,QB,Qf,QA,ty,↓reduceIte,Nat.reduceEqDiff,Nat.reduceAdd,Nat.reduceSub,Nat.reduceMul,Int.reduceLT,Int.reduceLE,Int.reduceNeg,Int.reduceToNat,reduceCtorEq,Nat.reduceBEq,Nat.reduceBNe,Qk,Qe,Value.cells,am,mm,keep, f_, fo_, aint, lv]
  exact ⟨o2.low (e1.length), e1.trans x2⟩
end Go.Proofs.Ytldfnfpinemedaa
