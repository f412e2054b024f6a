/- node: Lay. -/
import Derived.Test.YtfhbieimffjjkaaDoorNd1
import Derived.Test.YtfhbieimffjjkaaDoorSst
import Derived.Test.YtfhbieimffjjkaaDoorSlp
import Derived.Test.YtfhbieimffjjkaaDoorSlq
import Derived.Test.YtfhbieimffjjkaaDoorPk7
namespace Go.Proofs.YtfhbieimffjjkaaDoor
open Go Go.RowKit
--hide
set_option linter.unusedSimpArgs false
set_option linter.unusedVariables false
set_option maxRecDepth 4000
/-- An owned slice of elements of s cells. -/
def OSn (s b : Nat) (H : AH) (v : Value) (n : Nat) (cells : List Value) : Prop := (v = .slice none 0 0 ∧ n = 0 ∧ cells = []) ∨ ∃ g, v = .slice (some ⟨g, 0, none⟩) n s ∧ H[g]? = some (.own cells) ∧ b ≤ g
theorem OSn.sln {s b : Nat} {H : AH} {v : Value} {n : Nat} {cells : List Value} (h : OSn s b H v n cells) : SLn H v n cells := by
  rcases h with ⟨h, h0, h1⟩ | ⟨g, h, h1, h2⟩
  · exact .inl ⟨h, h1, h0⟩
  · exact .inr ⟨g, 0, s, h, .inr ⟨cells, AH.cells_own h1, by omega, by rw [List.drop_zero, List.take_length]⟩⟩
theorem OSn.mono {s b : Nat} {H H' : AH} {v : Value} {n : Nat} {cells : List Value} (h : OSn s b H v n cells) (e : Ext H H') : OSn s b H' v n cells := by
  rcases h with h | ⟨g, h1, h2, h3⟩
  · exact .inl h
  · exact .inr ⟨g, h1, e _ _ h2, h3⟩
theorem OSn.app1 {P : Program} {H : AH} {t tx b s bytes n : Nat} {v : Value} {cells c : List Value} (he : elemT P t = some (s, bytes)) (ht : sliceT P tx = true) (h : OSn s b H v n cells) (hc : cells.length = n * s) (hcl : c.length = s) (hv : c.all cellv = true) (hs : 0 < s) (hb : (n + 1) * bytes ≤ 140737488355328) (hn : n + 1 ≤ 9223372036854775807) (hbl : b ≤ H.length) :
    ∃ s' H', aappend P (H ++ [.own c]) t tx v (.slice (some ⟨H.length, 0, none⟩) 1 s) = some (s', H') ∧ OSn s b H' s' (n + 1) (cells ++ c) ∧ Keeps b H H' := by
  have hsrc : asrcZ P (H ++ [.own c]) t tx (.slice (some ⟨H.length, 0, none⟩) 1 s) s bytes = some (c, 1) := by
    rw [asrcZ_slice ht]
    unfold asrc
    simp only [ht, if_true, AH.cells_own (gpush H (.own c)), Nat.one_mul, Nat.zero_add, List.drop_zero]
    rw [if_neg (by decide), if_pos ⟨by omega, by rw [List.take_of_length_le (by omega)]; exact hv⟩, List.take_of_length_le (by omega)]
  have hl1 : (H ++ [ABlk.own c]).length = H.length + 1 := by rw [List.length_append]; rfl
  unfold aappend
  rcases h with ⟨rfl, rfl, rfl⟩ | ⟨g, rfl, hg, hbg⟩
  · refine ⟨.slice (some ⟨(H ++ [ABlk.own c]).length, 0, none⟩) 1 s, H ++ [.own c] ++ [.own c], ?_, .inr ⟨(H ++ [ABlk.own c]).length, rfl, by rw [List.nil_append]; exact gpush _ _, by omega⟩, ((Keeps.refl _ _).push hbl _).push hbl _⟩
    simp only [he, hsrc]
    rw [if_neg (by decide), if_pos ⟨by omega, by omega⟩]
  · have hg2 : (H ++ [ABlk.own c])[g]? = some (.own cells) := Ext.push _ _ _ _ hg
    refine ⟨.slice (some ⟨(H ++ [ABlk.own c]).length, 0, none⟩) (n + 1) s, (H ++ [ABlk.own c]).set g .dead ++ [.own (cells ++ c)], ?_, .inr ⟨(H ++ [ABlk.own c]).length, rfl, ?_, by omega⟩, (((Keeps.refl _ _).push hbl _).set hbg _).push hbl _⟩
    · simp only [he, hsrc, hg2]
      rw [if_neg (by decide), if_pos ⟨trivial, by omega, by omega, hb, hn⟩, List.drop_zero, ← hc, List.take_length]
    · have : (H ++ [ABlk.own c]).length = ((H ++ [ABlk.own c]).set g ABlk.dead).length := by rw [List.length_set]
      rw [this]; exact gpush _ _
theorem alen_sln {P : Program} {H : AH} {T : TypeId} {v : Value} {n : Nat} {cells : List Value} (hT : sliceT P T = true) (h : SLn H v n cells) : alen P T v = some (.int .i64 (n : Int)) := by
  obtain ⟨p, e, rfl⟩ := h.shape
  rw [alen_slice, if_pos hT]
abbrev flR (l : List Rf) : List Value := (l.map rcx).flatten
theorem flR_hl {l : List Rf} (h : ∀ x ∈ l, rwf x) : ∀ x ∈ l, (rcx x).length = 34 := fun x hx => rcx_length (h x hx)
theorem flR_length {l : List Rf} (h : ∀ x ∈ l, rwf x) : (flR l).length = l.length * 34 := flatS_length 34 rcx l (flR_hl h)
theorem catL_snoc (l : List Rf) (i : Nat) (hi : i < l.length) : catL (l.take (i + 1)) = catL (l.take i) ++ lyx l[i] := by
  rw [List.take_succ_eq_append_getElem hi, catL, List.map_append, List.flatten_append]
  simp [catL]
theorem fillN {l : List Rf} (h : ∀ x ∈ l, rwf x) (h6 : l.length ≤ 6) : eF (UInt8.ofNat l.length :: catL l) 256 = 0 ∧ tF (UInt8.ofNat l.length :: catL l) 256 = pgB l := by
  have hl := catL_length h
  have hok : okF (UInt8.ofNat l.length :: catL l) 256 := by unfold okF; rw [List.length_cons]; omega
  refine ⟨by rw [eF, if_pos hok], ?_⟩
  rw [tF, if_pos hok, putF, pgB, List.length_cons, hl, List.cons_append, show (256 : Int).toNat - (37 * l.length + 1) = 255 - 37 * l.length by omega]
theorem nslay_calls (x : Rf) (H : AH) (hx : rwf x) : ACalls Tryd.prog 74 #[.agg (rcx x).toArray] H fun w H' => SL H' w ((lyx x).map U8) ∧ Ext H H' := slay_calls x.1 x.2.1 x.2.2 H hx.1
set_option maxHeartbeats 8000000 in
theorem nlay_calls (v : Value) (l : List Rf) (H : AH) (hv : SLn H v l.length (flR l)) (hw : ∀ x ∈ l, rwf x) (hm : l.length ≤ maxLen) :
    ACalls Tryd.prog 47 #[v] H fun w H' => (∃ x, w = .tuple #[x, .int .i64 (ndE l)] ∧ OS H.length H' x ((ndK l).map U8)) ∧ Ext H H' := by
  have lv := alen_sln (P := Tryd.prog) (T := 70) (by simp only [ty]) hv
  have hrl := flR_hl hw
  have hra := rcx_cellv
  have h256 : maxLen ≤ 9223372036854775807 := by decide
  have fo_ : True := trivial
  have N_ := Now.start H
  have f_ := N_.has
  simp only [Has] at f_
  refine acalls_of_body Tryd.func47 rfl Tryd.ntmps47 (by simp) ?_
  simp only [argsT, Nat.reduceAdd]
  iterate 1 ((repeat first | refine Qo ?_ | refine Qn ?_); (first | (refine QK (by kernel_rfl) ?_; intro K_ hK_; simp -implicitDefEqProofs (disch := (try simp only [sl]); try omega) only [sm,QJ,Qj,Qi,Qq,QC,bd,look,aput,ty,↓reduceIte,Nat.reduceEqDiff,Nat.reduceAdd,Nat.reduceSub,Nat.reduceMul,Int.reduceLT,Int.reduceLE,Int.reduceNeg,Int.reduceToNat,reduceCtorEq,Nat.reduceBEq,Nat.reduceBNe,Qk,Qe,Value.cells,am,mm,keep, f_, fo_, aint, lv]; refine hK_ _ _ ?_; clear hK_ K_; repeat first | refine QL ?_ | refine QM ?_)))
  by_cases h1 : (l.length : Int) < 1
  · have hn : ¬ okL l := fun h => by have := h.1.1; omega
    iterate 1 ((repeat first | refine Qo ?_ | refine Qn ?_); (first | (refine QK (by kernel_rfl) ?_; intro K_ hK_; simp -implicitDefEqProofs (disch := (try simp only [sl]); try omega) only [sm,QJ,Qj,Qi,Qq,QC,bd,look,aput,QI,abin,anil,ty,↓reduceIte,Nat.reduceEqDiff,Nat.reduceAdd,Nat.reduceSub,Nat.reduceMul,Int.reduceLT,Int.reduceLE,Int.reduceNeg,Int.reduceToNat,reduceCtorEq,Nat.reduceBEq,Nat.reduceBNe,Qk,Qe,Value.cells,am,mm,keep, f_, fo_, aint, lv, h1]; refine hK_ _ _ ?_; clear hK_ K_; repeat first | refine QL ?_ | refine QM ?_)))
    repeat first | refine Qo ?_ | refine Qn ?_
    refine awp_if true rfl (by simp only [aeval_tmp, look, ↓reduceIte, Nat.reduceEqDiff]; try rfl) (fun _ => ?_) (fun h => absurd h (by decide))
    iterate 1 ((repeat first | refine Qo ?_ | refine Qn ?_); (first | (refine QK (by kernel_rfl) ?_; intro K_ hK_; simp -implicitDefEqProofs (disch := (try simp only [sl]); try omega) only [sm,QJ,Qj,Qi,Qq,QC,bd,look,aput,ty,↓reduceIte,Nat.reduceEqDiff,Nat.reduceAdd,Nat.reduceSub,Nat.reduceMul,Int.reduceLT,Int.reduceLE,Int.reduceNeg,Int.reduceToNat,reduceCtorEq,Nat.reduceBEq,Nat.reduceBNe,Qk,Qe,Value.cells,am,mm,keep, f_, fo_, aint, lv]; refine hK_ _ _ ?_; clear hK_ K_; repeat first | refine QL ?_ | refine QM ?_)))
    first | refine awp_ret ?_ | skip
    show ∃ v, aresults Tryd.prog Tryd.f47 _ _ = some v ∧ _
    rw [aresults_2 (r := .tmp 2) (s := .tmp 3) (by kernel_rfl)]
    simp -implicitDefEqProofs (disch := (try simp only [sl]); try omega) only [aresult, Option.some.injEq, exists_eq_left', sm,Qj,Qi,Qq,QC,Qz,bd,QF,look,aput,QB,Qf,QA,ty,↓reduceIte,Nat.reduceEqDiff,Nat.reduceAdd,Nat.reduceSub,Nat.reduceMul,Int.reduceLT,Int.reduceLE,Int.reduceNeg,Int.reduceToNat,reduceCtorEq,Nat.reduceBEq,Nat.reduceBNe,Qk,Qe,Value.cells,am,mm,keep, f_, fo_, aint, lv]
    rw [ndE, ndK, if_neg hn, if_neg hn]
    exact ⟨⟨_, rfl, OS.nil _ _⟩, Ext.refl _⟩
  by_cases h6 : (l.length : Int) > 6
  · have hn : ¬ okL l := fun h => by have := h.1.2; omega
    iterate 1 ((repeat first | refine Qo ?_ | refine Qn ?_); (first | (refine QK (by kernel_rfl) ?_; intro K_ hK_; simp -implicitDefEqProofs (disch := (try simp only [sl]); try omega) only [sm,QJ,Qj,Qi,Qq,QC,bd,look,aput,QI,abin,anil,ty,↓reduceIte,Nat.reduceEqDiff,Nat.reduceAdd,Nat.reduceSub,Nat.reduceMul,Int.reduceLT,Int.reduceLE,Int.reduceNeg,Int.reduceToNat,reduceCtorEq,Nat.reduceBEq,Nat.reduceBNe,Qk,Qe,Value.cells,am,mm,keep, f_, fo_, aint, lv, h1, h6]; refine hK_ _ _ ?_; clear hK_ K_; repeat first | refine QL ?_ | refine QM ?_)))
    repeat first | refine Qo ?_ | refine Qn ?_
    refine awp_if true rfl (by simp only [aeval_tmp, look, ↓reduceIte, Nat.reduceEqDiff]; try rfl) (fun _ => ?_) (fun h => absurd h (by decide))
    iterate 1 ((repeat first | refine Qo ?_ | refine Qn ?_); (first | (refine QK (by kernel_rfl) ?_; intro K_ hK_; simp -implicitDefEqProofs (disch := (try simp only [sl]); try omega) only [sm,QJ,Qj,Qi,Qq,QC,bd,look,aput,ty,↓reduceIte,Nat.reduceEqDiff,Nat.reduceAdd,Nat.reduceSub,Nat.reduceMul,Int.reduceLT,Int.reduceLE,Int.reduceNeg,Int.reduceToNat,reduceCtorEq,Nat.reduceBEq,Nat.reduceBNe,Qk,Qe,Value.cells,am,mm,keep, f_, fo_, aint, lv]; refine hK_ _ _ ?_; clear hK_ K_; repeat first | refine QL ?_ | refine QM ?_)))
    first | refine awp_ret ?_ | skip
    show ∃ v, aresults Tryd.prog Tryd.f47 _ _ = some v ∧ _
    rw [aresults_2 (r := .tmp 2) (s := .tmp 3) (by kernel_rfl)]
    simp -implicitDefEqProofs (disch := (try simp only [sl]); try omega) only [aresult, Option.some.injEq, exists_eq_left', sm,Qj,Qi,Qq,QC,Qz,bd,QF,look,aput,QB,Qf,QA,ty,↓reduceIte,Nat.reduceEqDiff,Nat.reduceAdd,Nat.reduceSub,Nat.reduceMul,Int.reduceLT,Int.reduceLE,Int.reduceNeg,Int.reduceToNat,reduceCtorEq,Nat.reduceBEq,Nat.reduceBNe,Qk,Qe,Value.cells,am,mm,keep, f_, fo_, aint, lv]
    rw [ndE, ndK, if_neg hn, if_neg hn]
    exact ⟨⟨_, rfl, OS.nil _ _⟩, Ext.refl _⟩
  have hwn := wnat8 l.length
  iterate 1 ((repeat first | refine Qo ?_ | refine Qn ?_); (first | (refine QK (by kernel_rfl) ?_; intro K_ hK_; simp -implicitDefEqProofs (disch := (try simp only [sl]); try omega) only [sm,QJ,Qj,Qi,Qq,QC,bd,look,aput,QI,abin,anil,ty,↓reduceIte,Nat.reduceEqDiff,Nat.reduceAdd,Nat.reduceSub,Nat.reduceMul,Int.reduceLT,Int.reduceLE,Int.reduceNeg,Int.reduceToNat,reduceCtorEq,Nat.reduceBEq,Nat.reduceBNe,Qk,Qe,Value.cells,am,mm,keep, f_, fo_, aint, lv, h1, h6]; refine hK_ _ _ ?_; clear hK_ K_; repeat first | refine QL ?_ | refine QM ?_)))
  repeat first | refine Qo ?_ | refine Qn ?_
  refine awp_if false rfl (by simp only [aeval_tmp, look, ↓reduceIte, Nat.reduceEqDiff]; try rfl) (fun h => absurd h (by decide)) (fun _ => ?_)
  iterate 3 ((repeat first | refine Qo ?_ | refine Qn ?_); (first | (refine QK (by kernel_rfl) ?_; intro K_ hK_; simp -implicitDefEqProofs (disch := (try simp only [sl]); try omega) only [sm,QJ,Qj,Qi,Qq,QC,Qz,bd,QF,look,aput,QH,Qg,ty,↓reduceIte,Nat.reduceEqDiff,Nat.reduceAdd,Nat.reduceSub,Nat.reduceMul,Int.reduceLT,Int.reduceLE,Int.reduceNeg,Int.reduceToNat,reduceCtorEq,Nat.reduceBEq,Nat.reduceBNe,Qk,Qe,Value.cells,am,mm,keep, f_, fo_, aint, lv, hwn]; refine hK_ _ _ ?_; clear hK_ K_; repeat first | refine QL ?_ | refine QM ?_) | (refine awp_skip ?_; repeat first | refine QL ?_ | refine QM ?_)))
  first | refine AWp.snap8 N_ ?_ | refine AWp.snap7 N_ ?_ | refine AWp.snap6 N_ ?_ | refine AWp.snap5 N_ ?_ | refine AWp.snap4 N_ ?_ | refine AWp.snap3 N_ ?_ | refine AWp.snap2 N_ ?_ | refine AWp.snap1 N_ ?_
  clear fo_; have fo_ := f_; clear f_ N_; intro H1 xH1 lH1 N_
  have f_ := N_.has
  simp only [Has] at f_
  have o1 : OS H.length H1 (.slice (some ⟨H.length, 0, none⟩) 1 1) ((UInt8.ofNat l.length :: catL (l.take 0)).map U8) := OS.mk f_.1.2.1 (Nat.le_refl _) rfl
  repeat first | refine Qo ?_ | refine Qn ?_
  refine awp_forK [19, 20] (fun x : Nat × Value × AH => [(21, I64 x.1), (4, x.2.1)]) (fun x : Nat × Value × AH => x.2.2) (fun x : Nat × Value × AH => x.1 ≤ l.length ∧ OS H.length x.2.2 x.2.1 ((UInt8.ofNat l.length :: catL (l.take x.1)).map U8) ∧ Ext H x.2.2 ∧ (∀ j (hj : j < l.length), j < x.1 → plx l[j])) (fun x : Nat × Value × AH => l.length - x.1) ((0, .slice (some ⟨H.length, 0, none⟩) 1 1, H1)) (⟨Nat.zero_le _, o1, xH1, fun j _ h => by omega⟩) (by repeat first | exact Forgets.nil | refine Forgets.cons (by first | (simp only [look, ↓reduceIte, Nat.reduceEqDiff]; done) | (simp only [look, ↓reduceIte, Nat.reduceEqDiff]; rfl) | simp [look]) ?_) rfl ?_
  rintro ⟨i, s, H2⟩ ⟨hi, o2, x2, hpl⟩
  simp only [] at hi o2 x2 hpl ⊢
  clear f_ fo_ N_
  have N_ : Now H H2 [] := ⟨x2, trivial⟩
  have f_ := N_.has
  simp only [Has] at f_
  have fo_ := True.intro
  have hct := catL_length (l := l.take i) (fun x hx => hw x (List.mem_of_mem_take hx))
  have htl : (l.take i).length = i := by rw [List.length_take]; omega
  rw [htl] at hct
  by_cases hlt : i < l.length
  · obtain ⟨g, o, e, cs, hve, hcs, hcc, hlen⟩ := hv.at hrl i hlt
    cases hve
    have hx := hw _ (List.getElem_mem hlt)
    have hsn := catL_snoc l i hlt
    have hpi := hpl
    generalize hxe : l[i] = x at *
    have hcs2 := x2.cells hcs
    have xl := rcx_length hx
    have xc := rcx_cellv x
    have xt := rcx_take hx
    have x0 : (rcx x)[0]? = some (.int .i64 x.1) := rfl
    have xo := rcx_ovr rz_wf hx
    have zl := rcx_length rz_wf
    have zRx : [Value.int .i64 0, Value.int .u32 0, Value.int .u8 0, Value.int .u8 0, Value.int .u8 0, Value.int .u8 0, Value.int .u8 0, Value.int .u8 0, Value.int .u8 0, Value.int .u8 0, Value.int .u8 0, Value.int .u8 0, Value.int .u8 0, Value.int .u8 0, Value.int .u8 0, Value.int .u8 0, Value.int .u8 0, Value.int .u8 0, Value.int .u8 0, Value.int .u8 0, Value.int .u8 0, Value.int .u8 0, Value.int .u8 0, Value.int .u8 0, Value.int .u8 0, Value.int .u8 0, Value.int .u8 0, Value.int .u8 0, Value.int .u8 0, Value.int .u8 0, Value.int .u8 0, Value.int .u8 0, Value.int .u8 0, Value.int .u8 0] = rcx rz := rfl
    have hii : IntKind.i64.wrap ((i : Int) + 1) = (i : Int) + 1 := wi64 _ (by omega) (by omega)
    iterate 1 ((repeat first | refine Qo ?_ | refine Qn ?_); (first | (refine QK (by kernel_rfl) ?_; intro K_ hK_; simp -implicitDefEqProofs (disch := (try simp only [sl]); try omega) only [sm,QJ,Qj,Qi,Qq,QC,bd,look,aput,QI,abin,anil,ty,↓reduceIte,Nat.reduceEqDiff,Nat.reduceAdd,Nat.reduceSub,Nat.reduceMul,Int.reduceLT,Int.reduceLE,Int.reduceNeg,Int.reduceToNat,reduceCtorEq,Nat.reduceBEq,Nat.reduceBNe,Qk,Qe,Value.cells,am,mm,keep, f_, fo_, aint, lv, hcs2, hcc, hlen, xl, xc, xt, x0, xo, zl, zRx, hlt]; refine hK_ _ _ ?_; clear hK_ K_; repeat first | refine QL ?_ | refine QM ?_)))
    repeat first | refine Qo ?_ | refine Qn ?_
    refine awp_if true rfl (by simp only [aeval_tmp, look, ↓reduceIte, Nat.reduceEqDiff]; try rfl) (fun _ => ?_) (fun h => absurd h (by decide))
    iterate 2 ((repeat first | refine Qo ?_ | refine Qn ?_); (first | (refine QK (by kernel_rfl) ?_; intro K_ hK_; simp -implicitDefEqProofs (disch := (try simp only [sl]); try omega) only [sm,QJ,Qj,Qi,Qq,QC,Qz,bd,QF,look,aput,Qm,Qb,QA,ty,↓reduceIte,Nat.reduceEqDiff,Nat.reduceAdd,Nat.reduceSub,Nat.reduceMul,Int.reduceLT,Int.reduceLE,Int.reduceNeg,Int.reduceToNat,reduceCtorEq,Nat.reduceBEq,Nat.reduceBNe,Qk,Qe,Value.cells,am,mm,keep, f_, fo_, aint, lv, hcs2, hcc, hlen, xl, xc, xt, x0, xo, zl, zRx, hlt]; refine hK_ _ _ ?_; clear hK_ K_; repeat first | refine QL ?_ | refine QM ?_) | (refine awp_skip ?_; repeat first | refine QL ?_ | refine QM ?_)))
    first | refine AWp.snap8 N_ ?_ | refine AWp.snap7 N_ ?_ | refine AWp.snap6 N_ ?_ | refine AWp.snap5 N_ ?_ | refine AWp.snap4 N_ ?_ | refine AWp.snap3 N_ ?_ | refine AWp.snap2 N_ ?_ | refine AWp.snap1 N_ ?_
    clear fo_; have fo_ := f_; clear f_ N_; intro H3 xH3 lH3 N_
    have f_ := N_.has
    simp only [Has] at f_
    have o3 := o2.mono xH3
    by_cases hp : plx x
    · rcases id hp with hp0 | hp1
      · have e0 : (x.1 != 0) = false := by rw [hp0]; rfl
        iterate 1 ((repeat first | refine Qo ?_ | refine Qn ?_); (first | (refine QK (by kernel_rfl) ?_; intro K_ hK_; simp -implicitDefEqProofs (disch := (try simp only [sl]); try omega) only [sm,QJ,Qj,Qi,Qq,QC,Qz,bd,QF,look,aput,QI,abin,anil,Qc,QA,ty,↓reduceIte,Nat.reduceEqDiff,Nat.reduceAdd,Nat.reduceSub,Nat.reduceMul,Int.reduceLT,Int.reduceLE,Int.reduceNeg,Int.reduceToNat,reduceCtorEq,Nat.reduceBEq,Nat.reduceBNe,Qk,Qe,Value.cells,am,mm,keep, f_, fo_, aint, lv, hcs2, hcc, hlen, xl, xc, xt, x0, xo, zl, zRx, e0]; refine hK_ _ _ ?_; clear hK_ K_; repeat first | refine QL ?_ | refine QM ?_)))
        repeat first | refine Qo ?_ | refine Qn ?_
        refine awp_if false rfl (by simp only [aeval_tmp, look, ↓reduceIte, Nat.reduceEqDiff]; try rfl) (fun h => absurd h (by decide)) (fun _ => ?_)
        iterate 1 ((repeat first | refine Qo ?_ | refine Qn ?_); (first | (refine QK (by kernel_rfl) ?_; intro K_ hK_; simp -implicitDefEqProofs (disch := (try simp only [sl]); try omega) only [sm,QJ,Qj,Qi,Qq,QC,Qz,bd,QF,look,aput,Qm,QA,ty,↓reduceIte,Nat.reduceEqDiff,Nat.reduceAdd,Nat.reduceSub,Nat.reduceMul,Int.reduceLT,Int.reduceLE,Int.reduceNeg,Int.reduceToNat,reduceCtorEq,Nat.reduceBEq,Nat.reduceBNe,Qk,Qe,Value.cells,am,mm,keep, f_, fo_, aint, lv, hcs2, hcc, hlen, xl, xc, xt, x0, xo, zl, zRx]; refine hK_ _ _ ?_; clear hK_ K_; repeat first | refine QL ?_ | refine QM ?_) | (refine awp_skip ?_; repeat first | refine QL ?_ | refine QM ?_)))
        (repeat first | refine Qo ?_ | refine Qn ?_); refine QK (by kernel_rfl) ?_; intro K_ hK_; simp -implicitDefEqProofs (disch := (try simp only [sl]); try omega) only [sm,QJ,Qj,Qi,Qq,QC,Qz,bd,QF,look,aput,Qm,QA,ty,↓reduceIte,Nat.reduceEqDiff,Nat.reduceAdd,Nat.reduceSub,Nat.reduceMul,Int.reduceLT,Int.reduceLE,Int.reduceNeg,Int.reduceToNat,reduceCtorEq,Nat.reduceBEq,Nat.reduceBNe,Qk,Qe,Value.cells,am,mm,keep, f_, fo_, aint, lv, hcs2, hcc, hlen, xl, xc, xt, x0, xo, zl, zRx]
        refine ACalls.mono (nslay_calls x H3 hx) ?_
        rintro w4 H4 ⟨o4, e4⟩
        have x4 : Ext H H4 := x2.trans (xH3.trans e4)
        obtain ⟨s5, H5, ha5, o5, k5⟩ := OS.app (P := Tryd.prog) (t := 22) (tx := 22) (bytes := 1) (by simp only [ty]) (by simp only [ty]) (o3.mono e4) o4 (all8 _) (by simp only [List.length_map, List.length_cons, hct, lyx_length hx]; omega) (by decide) x4.length
        have x5 : Ext H H5 := k5.ext (Nat.le_refl _) x4
        have ho5 : (UInt8.ofNat l.length :: catL (l.take i)).map U8 ++ (lyx x).map U8 = (UInt8.ofNat l.length :: catL (l.take (i + 1))).map U8 := by rw [← List.map_append, List.cons_append, hsn]
        rw [ho5] at o5
        try simp -implicitDefEqProofs (disch := (try simp only [sl]); try omega) only [sm,QJ,Qj,Qi,Qq,QC,Qz,bd,QF,look,aput,Qm,QA,ty,↓reduceIte,Nat.reduceEqDiff,Nat.reduceAdd,Nat.reduceSub,Nat.reduceMul,Int.reduceLT,Int.reduceLE,Int.reduceNeg,Int.reduceToNat,reduceCtorEq,Nat.reduceBEq,Nat.reduceBNe,Qk,Qe,Value.cells,am,mm,keep, f_, fo_, aint, lv, hcs2, hcc, hlen, xl, xc, xt, x0, xo, zl, zRx, ha5]
        try (refine hK_ _ _ ?_; clear hK_ K_; repeat first | refine QL ?_ | refine QM ?_)
        iterate 1 ((repeat first | refine Qo ?_ | refine Qn ?_); (first | (refine QK (by kernel_rfl) ?_; intro K_ hK_; simp -implicitDefEqProofs (disch := (try simp only [sl]); try omega) only [sm,QJ,Qj,Qi,Qq,QC,bd,look,aput,QI,abin,anil,ty,↓reduceIte,Nat.reduceEqDiff,Nat.reduceAdd,Nat.reduceSub,Nat.reduceMul,Int.reduceLT,Int.reduceLE,Int.reduceNeg,Int.reduceToNat,reduceCtorEq,Nat.reduceBEq,Nat.reduceBNe,Qk,Qe,Value.cells,am,mm,keep, f_, fo_, aint, lv, hcs2, hcc, hlen, xl, xc, xt, x0, xo, zl, zRx, hii]; refine hK_ _ _ ?_; clear hK_ K_; repeat first | refine QL ?_ | refine QM ?_)))
        refine ⟨(i + 1, s5, H5), ⟨by simp only []; omega, o5, x5, fun j hj h => by simp only [] at h; rcases Nat.lt_or_ge j i with h1 | h1; exact hpl j hj h1; obtain rfl : j = i := (by omega); rw [hxe]; exact hp⟩, (by repeat first | exact Forgets.nil | refine Forgets.cons (by first | (simp only [look, ↓reduceIte, Nat.reduceEqDiff]; done) | (simp only [look, ↓reduceIte, Nat.reduceEqDiff]; rfl) | simp [look, hii]) ?_), ?_⟩
        first | omega | exact ⟨rfl, by omega⟩ | exact ⟨rfl, by simp only []; omega⟩ | (simp only []; omega)
      · have e0 : (x.1 != 0) = true := by rw [hp1]; rfl
        have e1 : (x.1 != 1) = false := by rw [hp1]; rfl
        iterate 1 ((repeat first | refine Qo ?_ | refine Qn ?_); (first | (refine QK (by kernel_rfl) ?_; intro K_ hK_; simp -implicitDefEqProofs (disch := (try simp only [sl]); try omega) only [sm,QJ,Qj,Qi,Qq,QC,Qz,bd,QF,look,aput,QI,abin,anil,Qc,QA,ty,↓reduceIte,Nat.reduceEqDiff,Nat.reduceAdd,Nat.reduceSub,Nat.reduceMul,Int.reduceLT,Int.reduceLE,Int.reduceNeg,Int.reduceToNat,reduceCtorEq,Nat.reduceBEq,Nat.reduceBNe,Qk,Qe,Value.cells,am,mm,keep, f_, fo_, aint, lv, hcs2, hcc, hlen, xl, xc, xt, x0, xo, zl, zRx, e0, e1]; refine hK_ _ _ ?_; clear hK_ K_; repeat first | refine QL ?_ | refine QM ?_)))
        repeat first | refine Qo ?_ | refine Qn ?_
        refine awp_if false rfl (by simp only [aeval_tmp, look, ↓reduceIte, Nat.reduceEqDiff]; try rfl) (fun h => absurd h (by decide)) (fun _ => ?_)
        iterate 1 ((repeat first | refine Qo ?_ | refine Qn ?_); (first | (refine QK (by kernel_rfl) ?_; intro K_ hK_; simp -implicitDefEqProofs (disch := (try simp only [sl]); try omega) only [sm,QJ,Qj,Qi,Qq,QC,Qz,bd,QF,look,aput,Qm,QA,ty,↓reduceIte,Nat.reduceEqDiff,Nat.reduceAdd,Nat.reduceSub,Nat.reduceMul,Int.reduceLT,Int.reduceLE,Int.reduceNeg,Int.reduceToNat,reduceCtorEq,Nat.reduceBEq,Nat.reduceBNe,Qk,Qe,Value.cells,am,mm,keep, f_, fo_, aint, lv, hcs2, hcc, hlen, xl, xc, xt, x0, xo, zl, zRx]; refine hK_ _ _ ?_; clear hK_ K_; repeat first | refine QL ?_ | refine QM ?_) | (refine awp_skip ?_; repeat first | refine QL ?_ | refine QM ?_)))
        (repeat first | refine Qo ?_ | refine Qn ?_); refine QK (by kernel_rfl) ?_; intro K_ hK_; simp -implicitDefEqProofs (disch := (try simp only [sl]); try omega) only [sm,QJ,Qj,Qi,Qq,QC,Qz,bd,QF,look,aput,Qm,QA,ty,↓reduceIte,Nat.reduceEqDiff,Nat.reduceAdd,Nat.reduceSub,Nat.reduceMul,Int.reduceLT,Int.reduceLE,Int.reduceNeg,Int.reduceToNat,reduceCtorEq,Nat.reduceBEq,Nat.reduceBNe,Qk,Qe,Value.cells,am,mm,keep, f_, fo_, aint, lv, hcs2, hcc, hlen, xl, xc, xt, x0, xo, zl, zRx]
        refine ACalls.mono (nslay_calls x H3 hx) ?_
        rintro w4 H4 ⟨o4, e4⟩
        have x4 : Ext H H4 := x2.trans (xH3.trans e4)
        obtain ⟨s5, H5, ha5, o5, k5⟩ := OS.app (P := Tryd.prog) (t := 22) (tx := 22) (bytes := 1) (by simp only [ty]) (by simp only [ty]) (o3.mono e4) o4 (all8 _) (by simp only [List.length_map, List.length_cons, hct, lyx_length hx]; omega) (by decide) x4.length
        have x5 : Ext H H5 := k5.ext (Nat.le_refl _) x4
        have ho5 : (UInt8.ofNat l.length :: catL (l.take i)).map U8 ++ (lyx x).map U8 = (UInt8.ofNat l.length :: catL (l.take (i + 1))).map U8 := by rw [← List.map_append, List.cons_append, hsn]
        rw [ho5] at o5
        try simp -implicitDefEqProofs (disch := (try simp only [sl]); try omega) only [sm,QJ,Qj,Qi,Qq,QC,Qz,bd,QF,look,aput,Qm,QA,ty,↓reduceIte,Nat.reduceEqDiff,Nat.reduceAdd,Nat.reduceSub,Nat.reduceMul,Int.reduceLT,Int.reduceLE,Int.reduceNeg,Int.reduceToNat,reduceCtorEq,Nat.reduceBEq,Nat.reduceBNe,Qk,Qe,Value.cells,am,mm,keep, f_, fo_, aint, lv, hcs2, hcc, hlen, xl, xc, xt, x0, xo, zl, zRx, ha5]
        try (refine hK_ _ _ ?_; clear hK_ K_; repeat first | refine QL ?_ | refine QM ?_)
        iterate 1 ((repeat first | refine Qo ?_ | refine Qn ?_); (first | (refine QK (by kernel_rfl) ?_; intro K_ hK_; simp -implicitDefEqProofs (disch := (try simp only [sl]); try omega) only [sm,QJ,Qj,Qi,Qq,QC,bd,look,aput,QI,abin,anil,ty,↓reduceIte,Nat.reduceEqDiff,Nat.reduceAdd,Nat.reduceSub,Nat.reduceMul,Int.reduceLT,Int.reduceLE,Int.reduceNeg,Int.reduceToNat,reduceCtorEq,Nat.reduceBEq,Nat.reduceBNe,Qk,Qe,Value.cells,am,mm,keep, f_, fo_, aint, lv, hcs2, hcc, hlen, xl, xc, xt, x0, xo, zl, zRx, hii]; refine hK_ _ _ ?_; clear hK_ K_; repeat first | refine QL ?_ | refine QM ?_)))
        refine ⟨(i + 1, s5, H5), ⟨by simp only []; omega, o5, x5, fun j hj h => by simp only [] at h; rcases Nat.lt_or_ge j i with h1 | h1; exact hpl j hj h1; obtain rfl : j = i := (by omega); rw [hxe]; exact hp⟩, (by repeat first | exact Forgets.nil | refine Forgets.cons (by first | (simp only [look, ↓reduceIte, Nat.reduceEqDiff]; done) | (simp only [look, ↓reduceIte, Nat.reduceEqDiff]; rfl) | simp [look, hii]) ?_), ?_⟩
        first | omega | exact ⟨rfl, by omega⟩ | exact ⟨rfl, by simp only []; omega⟩ | (simp only []; omega)
    · have e0 : (x.1 != 0) = true := by rw [bne_iff_ne]; exact fun h => hp (.inl h)
      have e1 : (x.1 != 1) = true := by rw [bne_iff_ne]; exact fun h => hp (.inr h)
      have hn : ¬ okL l := fun h => hp (by rw [← hxe]; exact h.2 _ (List.getElem_mem hlt))
      iterate 1 ((repeat first | refine Qo ?_ | refine Qn ?_); (first | (refine QK (by kernel_rfl) ?_; intro K_ hK_; simp -implicitDefEqProofs (disch := (try simp only [sl]); try omega) only [sm,QJ,Qj,Qi,Qq,QC,Qz,bd,QF,look,aput,QI,abin,anil,Qc,QA,ty,↓reduceIte,Nat.reduceEqDiff,Nat.reduceAdd,Nat.reduceSub,Nat.reduceMul,Int.reduceLT,Int.reduceLE,Int.reduceNeg,Int.reduceToNat,reduceCtorEq,Nat.reduceBEq,Nat.reduceBNe,Qk,Qe,Value.cells,am,mm,keep, f_, fo_, aint, lv, hcs2, hcc, hlen, xl, xc, xt, x0, xo, zl, zRx, e0, e1]; refine hK_ _ _ ?_; clear hK_ K_; repeat first | refine QL ?_ | refine QM ?_)))
      repeat first | refine Qo ?_ | refine Qn ?_
      refine awp_if true rfl (by simp only [aeval_tmp, look, ↓reduceIte, Nat.reduceEqDiff]; try rfl) (fun _ => ?_) (fun h => absurd h (by decide))
      iterate 1 ((repeat first | refine Qo ?_ | refine Qn ?_); (first | (refine QK (by kernel_rfl) ?_; intro K_ hK_; simp -implicitDefEqProofs (disch := (try simp only [sl]); try omega) only [sm,QJ,Qj,Qi,Qq,QC,bd,look,aput,ty,↓reduceIte,Nat.reduceEqDiff,Nat.reduceAdd,Nat.reduceSub,Nat.reduceMul,Int.reduceLT,Int.reduceLE,Int.reduceNeg,Int.reduceToNat,reduceCtorEq,Nat.reduceBEq,Nat.reduceBNe,Qk,Qe,Value.cells,am,mm,keep, f_, fo_, aint, lv, hcs2, hcc, hlen, xl, xc, xt, x0, xo, zl, zRx]; refine hK_ _ _ ?_; clear hK_ K_; repeat first | refine QL ?_ | refine QM ?_)))
      first | refine awp_ret ?_ | skip
      show ∃ v, aresults Tryd.prog Tryd.f47 _ _ = some v ∧ _
      rw [aresults_2 (r := .tmp 2) (s := .tmp 3) (by kernel_rfl)]
      simp -implicitDefEqProofs (disch := (try simp only [sl]); try omega) only [aresult, Option.some.injEq, exists_eq_left', sm,Qj,Qi,Qq,QC,Qz,bd,QF,look,aput,QB,Qf,QA,ty,↓reduceIte,Nat.reduceEqDiff,Nat.reduceAdd,Nat.reduceSub,Nat.reduceMul,Int.reduceLT,Int.reduceLE,Int.reduceNeg,Int.reduceToNat,reduceCtorEq,Nat.reduceBEq,Nat.reduceBNe,Qk,Qe,Value.cells,am,mm,keep, f_, fo_, aint, lv, hcs2, hcc, hlen, xl, xc, xt, x0, xo, zl, zRx]
      rw [ndE, ndK, if_neg hn, if_neg hn]
      exact ⟨⟨_, rfl, OS.nil _ _⟩, N_.ext⟩
  · obtain rfl : i = l.length := by omega
    have hok : okL l := ⟨⟨by omega, by omega⟩, fun x hx => by obtain ⟨j, hj, rfl⟩ := List.getElem_of_mem hx; exact hpl j hj hj⟩
    rw [List.take_length] at o2 hct
    iterate 1 ((repeat first | refine Qo ?_ | refine Qn ?_); (first | (refine QK (by kernel_rfl) ?_; intro K_ hK_; simp -implicitDefEqProofs (disch := (try simp only [sl]); try omega) only [sm,QJ,Qj,Qi,Qq,QC,bd,look,aput,QI,abin,anil,ty,↓reduceIte,Nat.reduceEqDiff,Nat.reduceAdd,Nat.reduceSub,Nat.reduceMul,Int.reduceLT,Int.reduceLE,Int.reduceNeg,Int.reduceToNat,reduceCtorEq,Nat.reduceBEq,Nat.reduceBNe,Qk,Qe,Value.cells,am,mm,keep, f_, fo_, aint, lv, hlt]; refine hK_ _ _ ?_; clear hK_ K_; repeat first | refine QL ?_ | refine QM ?_)))
    repeat first | refine Qo ?_ | refine Qn ?_
    refine awp_if false rfl (by simp only [aeval_tmp, look, ↓reduceIte, Nat.reduceEqDiff]; try rfl) (fun h => absurd h (by decide)) (fun _ => ?_)
    iterate 1 ((repeat first | refine Qo ?_ | refine Qn ?_); (first | (refine QK (by kernel_rfl) ?_; intro K_ hK_; simp -implicitDefEqProofs (disch := (try simp only [sl]); try omega) only [sm,QJ,Qj,Qi,Qq,QC,bd,look,aput,Qm,Qh,ty,↓reduceIte,Nat.reduceEqDiff,Nat.reduceAdd,Nat.reduceSub,Nat.reduceMul,Int.reduceLT,Int.reduceLE,Int.reduceNeg,Int.reduceToNat,reduceCtorEq,Nat.reduceBEq,Nat.reduceBNe,Qk,Qe,Value.cells,am,mm,keep, f_, fo_, aint, lv]; refine hK_ _ _ ?_; clear hK_ K_; repeat first | refine QL ?_ | refine QM ?_) | (refine awp_exit ?_; (repeat first | refine aThen_exit ?_ | refine aIn_out rfl ?_); refine aIn_here ?_; repeat first | refine QL ?_ | refine QM ?_)))
    (repeat first | refine Qo ?_ | refine Qn ?_); refine QK (by kernel_rfl) ?_; intro K_ hK_; simp -implicitDefEqProofs (disch := (try simp only [sl]); try omega) only [sm,QJ,Qj,Qi,Qq,QC,bd,look,aput,Qm,Qh,ty,↓reduceIte,Nat.reduceEqDiff,Nat.reduceAdd,Nat.reduceSub,Nat.reduceMul,Int.reduceLT,Int.reduceLE,Int.reduceNeg,Int.reduceToNat,reduceCtorEq,Nat.reduceBEq,Nat.reduceBNe,Qk,Qe,Value.cells,am,mm,keep, f_, fo_, aint, lv]
    refine ACalls.mono (fill_u s _ 256 H2 o2.sl (by simp only [List.length_cons, hct]; omega) (by decide)) ?_
    rintro _ H3 ⟨x, rfl, o3, e3⟩
    rw [(fillN hw (by omega)).1]
    rw [(fillN hw (by omega)).2] at o3
    try simp -implicitDefEqProofs (disch := (try simp only [sl]); try omega) only [sm,QJ,Qj,Qi,Qq,QC,bd,look,aput,Qm,Qh,ty,↓reduceIte,Nat.reduceEqDiff,Nat.reduceAdd,Nat.reduceSub,Nat.reduceMul,Int.reduceLT,Int.reduceLE,Int.reduceNeg,Int.reduceToNat,reduceCtorEq,Nat.reduceBEq,Nat.reduceBNe,Qk,Qe,Value.cells,am,mm,keep, f_, fo_, aint, lv]
    try (refine hK_ _ _ ?_; clear hK_ K_; repeat first | refine QL ?_ | refine QM ?_)
    first | refine awp_ret ?_ | skip
    show ∃ v, aresults Tryd.prog Tryd.f47 _ _ = some v ∧ _
    rw [aresults_2 (r := .tmp 2) (s := .tmp 3) (by kernel_rfl)]
    simp -implicitDefEqProofs (disch := (try simp only [sl]); try omega) only [aresult, Option.some.injEq, exists_eq_left', sm,Qj,Qi,Qq,QC,Qz,bd,QF,look,aput,QB,Qf,QA,ty,↓reduceIte,Nat.reduceEqDiff,Nat.reduceAdd,Nat.reduceSub,Nat.reduceMul,Int.reduceLT,Int.reduceLE,Int.reduceNeg,Int.reduceToNat,reduceCtorEq,Nat.reduceBEq,Nat.reduceBNe,Qk,Qe,Value.cells,am,mm,keep, f_, fo_, aint, lv]
    rw [ndE, ndK, if_pos hok, if_pos hok]
    exact ⟨⟨_, rfl, o3.low x2.length⟩, x2.trans e3⟩
end Go.Proofs.YtfhbieimffjjkaaDoor
