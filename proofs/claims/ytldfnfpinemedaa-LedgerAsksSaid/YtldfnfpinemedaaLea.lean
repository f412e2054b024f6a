/- ledger: theirs; what All does, plainly. -/
import Derived.Test.YtldfnfpinemedaaLe9
import Derived.Test.YtldfnfpinemedaaIn
namespace Go.Proofs.Ytldfnfpinemedaa
open Go Go.RowKit
--hide
set_option linter.unusedSimpArgs false
set_option linter.unusedVariables false
set_option maxRecDepth 4000
def rngU (u : Us) : Prop := 0 ≤ u.1 ∧ u.1 < 4294967296 ∧ -9223372036854775808 ≤ u.2 ∧ u.2 ≤ 9223372036854775807
theorem uses_arg {H : AH} {v : Value} (h : AVal Try.prog H 22 v) : ∃ l : List Us, SLn H v l.length (flU l) ∧ l.length ≤ maxLen ∧ ∀ u ∈ l, rngU u := by
  obtain ⟨⟨v, xs⟩, hv, hl, hm, hk⟩ := arg22 h
  cases hv
  refine ⟨xs.map fun x => (((x.1.toNat : Nat) : Int), x.2), ?_, by rw [List.length_map]; exact hm, fun u hu => ?_⟩
  · unfold flU; rw [List.length_map, List.map_map]; exact hl
  · obtain ⟨y, hy, rfl⟩ := List.mem_map.1 hu
    have h1 := y.1.toNat_lt
    have h2 := (hk y hy).2
    unfold rngU
    simp only []
    exact ⟨by omega, by omega, h2.1, h2.2⟩
theorem use_arg {H : AH} {v : Value} (h : AVal Try.prog H 29 v) : ∃ u : Us, v = .agg (usc u).toArray ∧ rngU u := by
  obtain ⟨y, rfl, h1, h2⟩ := arg29 h
  refine ⟨(((y.1.toNat : Nat) : Int), y.2), rfl, ?_⟩
  have h1 := y.1.toNat_lt
  unfold rngU
  simp only []
  exact ⟨by omega, by omega, h2.1, h2.2⟩
theorem flU_snoc (l : List Us) (x : Us) : flU (l ++ [x]) = flU l ++ usc x := by simp [flU]
theorem zUr : [Value.int .u32 0, Value.int .i64 0] = usc (0, 0) := rfl
set_option maxHeartbeats 8000000 in
theorem ltheirs_calls (v : Value) (l : List Us) (H : AH) (hv : SLn H v l.length (flU l)) (hm : l.length ≤ 1000) :
    ACalls Try.prog 21 #[v] H fun w H' => OSn 2 H.length H' w l.length (flU l) ∧ Ext H H' := by
  have lv := alen_slnU (P := Try.prog) (T := 22) (by simp only [ty]) hv
  have fo_ : True := trivial
  have N_ := Now.start H
  have f_ := N_.has
  simp only [Has] at f_
  refine acalls_of_body Try.func21 rfl Try.ntmps21 (by simp) ?_
  simp only [argsT, Nat.reduceAdd]
  iterate 3 ((repeat first | refine Qo ?_ | refine Qn ?_); (first | (refine QK (by kernel_rfl) ?_; intro K_ hK_; simp -implicitDefEqProofs (disch := (try simp only [sl]); try omega) only [sm,QJ,Qj,Qi,Qq,QC,bd,look,aput,ty,↓reduceIte,Nat.reduceEqDiff,Nat.reduceAdd,Nat.reduceSub,Nat.reduceMul,Int.reduceLT,Int.reduceLE,Int.reduceNeg,Int.reduceToNat,reduceCtorEq,Nat.reduceBEq,Nat.reduceBNe,Qk,Qe,Value.cells,am,mm,keep, f_, fo_, aint, lv]; refine hK_ _ _ ?_; clear hK_ K_; repeat first | refine QL ?_ | refine QM ?_)))
  repeat first | refine Qo ?_ | refine Qn ?_
  refine awp_forK [6, 7] (fun x : Nat × Value × AH => [(8, I64 x.1), (3, x.2.1)]) (fun x : Nat × Value × AH => x.2.2) (fun x : Nat × Value × AH => x.1 ≤ l.length ∧ OSn 2 H.length x.2.2 x.2.1 x.1 (flU (l.take x.1)) ∧ Ext H x.2.2) (fun x : Nat × Value × AH => l.length - x.1) ((0, .slice none 0 0, H)) (⟨Nat.zero_le _, OSn.none _, Ext.refl _⟩) (by repeat first | exact Forgets.nil | refine Forgets.cons (by first | (simp only [look, ↓reduceIte, Nat.reduceEqDiff]; done) | (simp only [look, ↓reduceIte, Nat.reduceEqDiff]; rfl) | simp [look]) ?_) rfl ?_
  rintro ⟨i, s, H2⟩ ⟨hi, o2, x2⟩
  simp only [] at hi o2 x2 ⊢
  clear f_ N_
  have N_ : Now H H2 [] := ⟨x2, trivial⟩
  have f_ := N_.has
  simp only [Has] at f_
  have hfl := flU_length (l.take i)
  have htl : (l.take i).length = i := by rw [List.length_take]; omega
  rw [htl] at hfl
  by_cases hlt : i < l.length
  · obtain ⟨g, o, e, cs, hve, hcs, hcc, hlen⟩ := hv.at (usc_hl l) i hlt
    cases hve
    have hsn : l.take (i + 1) = l.take i ++ [l[i]] := List.take_succ_eq_append_getElem hlt
    generalize hxe : l[i] = x at *
    have hcs2 := x2.cells hcs
    have xl := usc_length x
    have xc := usc_cellv x
    have xt := usc_take x
    have xo := usc_ovr (0, 0) x
    have zl := usc_length (0, 0)
    have hii : IntKind.i64.wrap ((i : Int) + 1) = (i : Int) + 1 := wi64 _ (by omega) (by omega)
    iterate 1 ((repeat first | refine Qo ?_ | refine Qn ?_); (first | (refine QK (by kernel_rfl) ?_; intro K_ hK_; simp -implicitDefEqProofs (disch := (try simp only [sl]); try omega) only [sm,QJ,Qj,Qi,Qq,QC,bd,look,aput,QI,abin,anil,ty,↓reduceIte,Nat.reduceEqDiff,Nat.reduceAdd,Nat.reduceSub,Nat.reduceMul,Int.reduceLT,Int.reduceLE,Int.reduceNeg,Int.reduceToNat,reduceCtorEq,Nat.reduceBEq,Nat.reduceBNe,Qk,Qe,Value.cells,am,mm,keep, f_, fo_, aint, lv, hcs2, hcc, hlen, xl, xc, xt, xo, zl, zUr, hlt]; refine hK_ _ _ ?_; clear hK_ K_; repeat first | refine QL ?_ | refine QM ?_)))
    repeat first | refine Qo ?_ | refine Qn ?_
    refine awp_if true rfl (by first | (simp only [aeval_tmp, look, ↓reduceIte, Nat.reduceEqDiff]; try rfl) | rfl) (fun _ => ?_) (fun h => absurd h (by decide))
    iterate 2 ((repeat first | refine Qo ?_ | refine Qn ?_); (first | (refine QK (by kernel_rfl) ?_; intro K_ hK_; simp -implicitDefEqProofs (disch := (try simp only [sl]); try omega) only [sm,QJ,Qj,Qi,Qq,QC,Qz,bd,QF,look,aput,Qm,Qb,QA,ty,↓reduceIte,Nat.reduceEqDiff,Nat.reduceAdd,Nat.reduceSub,Nat.reduceMul,Int.reduceLT,Int.reduceLE,Int.reduceNeg,Int.reduceToNat,reduceCtorEq,Nat.reduceBEq,Nat.reduceBNe,Qk,Qe,Value.cells,am,mm,keep, f_, fo_, aint, lv, hcs2, hcc, hlen, xl, xc, xt, xo, zl, zUr, hlt]; refine hK_ _ _ ?_; clear hK_ K_; repeat first | refine QL ?_ | refine QM ?_) | (refine awp_skip ?_; repeat first | refine QL ?_ | refine QM ?_)))
    first | refine AWp.snap8 N_ ?_ | refine AWp.snap7 N_ ?_ | refine AWp.snap6 N_ ?_ | refine AWp.snap5 N_ ?_ | refine AWp.snap4 N_ ?_ | refine AWp.snap3 N_ ?_ | refine AWp.snap2 N_ ?_ | refine AWp.snap1 N_ ?_
    clear fo_; have fo_ := f_; clear f_ N_; intro H4 xH4 lH4 N_
    have f_ := N_.has
    simp only [Has] at f_
    obtain ⟨s5, H5, ha5, o5, k5, -⟩ := OSn.app1 (P := Try.prog) (t := 47) (tx := 47) (bytes := 16) (H := H4) (c := usc x) (by simp only [ty]) (by simp only [ty]) (o2.mono xH4) hfl xl xc (by decide) (by omega) (by omega) (by have := x2.length; have := xH4.length; omega)
    have x5 : Ext H H5 := k5.ext (Nat.le_refl _) (x2.trans xH4)
    rw [← flU_snoc, ← hsn] at o5
    iterate 2 ((repeat first | refine Qo ?_ | refine Qn ?_); (first | (refine QK (by kernel_rfl) ?_; intro K_ hK_; simp -implicitDefEqProofs (disch := (try simp only [sl]); try omega) only [sm,QJ,Qj,Qi,Qq,QC,Qz,bd,QF,look,aput,Qm,QI,abin,anil,QA,ty,↓reduceIte,Nat.reduceEqDiff,Nat.reduceAdd,Nat.reduceSub,Nat.reduceMul,Int.reduceLT,Int.reduceLE,Int.reduceNeg,Int.reduceToNat,reduceCtorEq,Nat.reduceBEq,Nat.reduceBNe,Qk,Qe,Value.cells,am,mm,keep, f_, fo_, aint, lv, hcs2, hcc, hlen, xl, xc, xt, xo, zl, zUr, bda, ha5, hii]; refine hK_ _ _ ?_; clear hK_ K_; repeat first | refine QL ?_ | refine QM ?_)))
    refine ⟨(i + 1, s5, H5), ⟨by simp only []; omega, o5.low (by have := x2.length; have := xH4.length; omega), x5⟩, (by repeat first | exact Forgets.nil | refine Forgets.cons (by first | (simp only [look, ↓reduceIte, Nat.reduceEqDiff]; done) | (simp only [look, ↓reduceIte, Nat.reduceEqDiff]; rfl) | simp [look, hii]) ?_), ?_⟩
    first | omega | exact ⟨rfl, by omega⟩ | exact ⟨rfl, by simp only []; omega⟩ | (simp only []; omega)
  obtain rfl : i = l.length := by omega
  rw [List.take_length] at o2
  iterate 1 ((repeat first | refine Qo ?_ | refine Qn ?_); (first | (refine QK (by kernel_rfl) ?_; intro K_ hK_; simp -implicitDefEqProofs (disch := (try simp only [sl]); try omega) only [sm,QJ,Qj,Qi,Qq,QC,bd,look,aput,QI,abin,anil,ty,↓reduceIte,Nat.reduceEqDiff,Nat.reduceAdd,Nat.reduceSub,Nat.reduceMul,Int.reduceLT,Int.reduceLE,Int.reduceNeg,Int.reduceToNat,reduceCtorEq,Nat.reduceBEq,Nat.reduceBNe,Qk,Qe,Value.cells,am,mm,keep, f_, aint, lv, hlt]; refine hK_ _ _ ?_; clear hK_ K_; repeat first | refine QL ?_ | refine QM ?_)))
  repeat first | refine Qo ?_ | refine Qn ?_
  refine awp_if false rfl (by first | (simp only [aeval_tmp, look, ↓reduceIte, Nat.reduceEqDiff]; try rfl) | rfl) (fun h => absurd h (by decide)) (fun _ => ?_)
  iterate 2 ((repeat first | refine Qo ?_ | refine Qn ?_); (first | (refine QK (by kernel_rfl) ?_; intro K_ hK_; simp -implicitDefEqProofs (disch := (try simp only [sl]); try omega) only [sm,QJ,Qj,Qi,Qq,QC,bd,look,aput,ty,↓reduceIte,Nat.reduceEqDiff,Nat.reduceAdd,Nat.reduceSub,Nat.reduceMul,Int.reduceLT,Int.reduceLE,Int.reduceNeg,Int.reduceToNat,reduceCtorEq,Nat.reduceBEq,Nat.reduceBNe,Qk,Qe,Value.cells,am,mm,keep, f_, aint, lv]; refine hK_ _ _ ?_; clear hK_ K_; repeat first | refine QL ?_ | refine QM ?_) | (refine awp_exit ?_; (repeat first | refine aThen_exit ?_ | refine aIn_out rfl ?_); refine aIn_here ?_; repeat first | refine QL ?_ | refine QM ?_)))
  first | refine awp_ret ?_ | skip
  show ∃ v, aresults Try.prog Try.f21 _ _ = some v ∧ _
  rw [aresults_1 (r := .tmp 2) (by kernel_rfl)]
  simp -implicitDefEqProofs (disch := (try simp only [sl]); try omega) only [aresult, Option.some.injEq, exists_eq_left', sm,Qj,Qi,Qq,QC,Qz,bd,QF,look,aput,QB,Qf,QA,ty,↓reduceIte,Nat.reduceEqDiff,Nat.reduceAdd,Nat.reduceSub,Nat.reduceMul,Int.reduceLT,Int.reduceLE,Int.reduceNeg,Int.reduceToNat,reduceCtorEq,Nat.reduceBEq,Nat.reduceBNe,Qk,Qe,Value.cells,am,mm,keep, f_, aint, lv]
  exact ⟨o2, x2⟩
theorem all_facts : ∀ (l : List Us) (L : List Rn) (r : List Us), CI L r → (∀ u ∈ l, 0 ≤ u.1) →
    (∃ r', CI (allL L l) r' ∧ r'.length = r.length + allN L l) ∧ (∀ u, memR L u → memR (allL L l) u) ∧ (∀ i, (hi : i < l.length) → i < allN L l → memR (allL L l) l[i]) ∧ allN L l ≤ l.length ∧ (allE L l = 0 ↔ allN L l = l.length)
  | [], L, r, hc, _ => ⟨⟨r, hc, rfl⟩, fun u h => h, fun i hi => absurd hi (by simp), Nat.le_refl _, ⟨fun _ => rfl, fun _ => rfl⟩⟩
  | u :: t, L, r, hc, hr => by
    by_cases hE : adE L u = 0
    · have h0 := hr u List.mem_cons_self
      obtain ⟨c4, hn, ho⟩ := hc.adl h0 hE
      obtain ⟨⟨r', i1, i2⟩, i3, i4, i5, i6⟩ := all_facts t (addL L u) (insU r u) c4 (fun x hx => hr x (List.mem_cons_of_mem _ hx))
      have hsp := (add_spec hc.1 ho h0 hn).2
      rw [allN, allE, allL, if_pos hE, if_pos hE, if_pos hE]
      refine ⟨⟨r', i1, by rw [i2, insU_len]; omega⟩, fun v hv => i3 v ((hsp v).2 (.inr hv)), fun i hi hi2 => ?_, by rw [List.length_cons]; omega, by rw [i6, List.length_cons]; omega⟩
      match i, hi with
      | 0, _ => exact i3 u ((hsp u).2 (.inl rfl))
      | i + 1, hi => exact i4 i (by simpa using hi) (by omega)
    · rw [allN, allE, allL, if_neg hE, if_neg hE, if_neg hE]
      refine ⟨⟨r, hc, rfl⟩, fun v hv => hv, fun i hi hi2 => absurd hi2 (by omega), Nat.zero_le _, ⟨fun h => absurd h hE, fun h => by rw [List.length_cons] at h; omega⟩⟩
end Go.Proofs.Ytldfnfpinemedaa
