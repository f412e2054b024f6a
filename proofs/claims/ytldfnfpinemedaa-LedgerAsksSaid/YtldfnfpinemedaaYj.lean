/- slices.Insert of one run: at the end; of any slice. -/
import Derived.Test.YtldfnfpinemedaaYi
import Derived.Test.YtldfnfpinemedaaLe1
namespace Go.Proofs.Ytldfnfpinemedaa
open Go Go.RowKit
--hide
set_option linter.unusedSimpArgs false
set_option linter.unusedVariables false
set_option maxRecDepth 4000
set_option maxHeartbeats 8000000 in
theorem insNr (g q n c : Nat) (C x : List Value) (H : AH) (hgq : g ≠ q) (hg : H[g]? = some (.own C)) (hq : H[q]? = some (.own x)) (hx : x.length = 3) (hxc : x.all cellv = true) (hn : n ≤ 1000) (hn0 : 0 < n) (hc : n ≤ c) (hcC : c * 3 ≤ C.length) (hCv : (C.take (n * 3)).all cellv = true) :
    ACalls Try.prog 40 #[.slice (some ⟨g, 0, some c⟩) n 3, I64 n, .slice (some ⟨q, 0, none⟩) 1 3] H fun w H' =>
      (∃ g' s C', w = .slice (some ⟨g', 0, s⟩) (n + 1) 3 ∧ H'[g']? = some (.own C') ∧ C'.take ((n + 1) * 3) = C.take (n * 3) ++ x ++ (C.drop (n * 3)).take ((n - n) * 3) ∧ (n + 1) * 3 ≤ C'.length ∧ (g' = g ∨ H.length ≤ g')) ∧ But g H H' := by
  have hel : elemT Try.prog 38 = some (3, 24) := by simp only [ty]
  have hsl : sliceT Try.prog 38 = true := by simp only [ty]
  have hii : ((n : Int) == (n : Int)) = true := by simp
  have hle : n ≤ c := hc
  have hcn : c * 3 = n * 3 ∨ (n + 1) * 3 ≤ c * 3 := by omega
  have ha := app_xX (P := Try.prog) (H := H) (t := 38) (tx := 38) (n := n) (c := c) (e := 3) hel hsl (by decide) hg (AH.cells_own hq) hx hxc (by omega) hcC (by omega) (by omega)
  by_cases hcap : n + 1 ≤ c
  · have hlt : n < c ∨ n = 0 := .inl hcap
    rw [if_pos hcap] at ha
    have hol : n * 3 + x.length ≤ C.length := by omega
    have hov := ovr_eq C x (n * 3) hol
    have hl2 : (ovr C (n * 3) x).length = C.length := ovr_length hol
    generalize ovr C (n * 3) x = D at *
    have fo_ : True := trivial
    have N_ := Now.start H
    have f_ := N_.has
    simp only [Has] at f_
    refine acalls_of_body Try.func40 rfl Try.ntmps40 (by simp) ?_
    simp only [argsT, Nat.reduceAdd]
    iterate 4 ((repeat first | refine Qo ?_ | refine Qn ?_); (first | (refine QK (by kernel_rfl) ?_; intro K_ hK_; simp -implicitDefEqProofs (disch := (try simp only [sl]); try omega) only [sm,QJ,Qj,Qi,Qq,QC,bd,look,aput,QI,abin,anil,Qr,aslice3,asl3,loN,hiN,ty,↓reduceIte,Nat.reduceEqDiff,Nat.reduceAdd,Nat.reduceSub,Nat.reduceMul,Int.reduceLT,Int.reduceLE,Int.reduceNeg,Int.reduceToNat,reduceCtorEq,Nat.reduceBEq,Nat.reduceBNe,Qk,Qe,Value.cells,am,mm,keep, aint, hii, hle, hlt, ha]; refine hK_ _ _ ?_; clear hK_ K_; repeat first | refine QL ?_ | refine QM ?_)))
    repeat first | refine Qo ?_ | refine Qn ?_
    refine awp_if false rfl (by first | (simp only [aeval_tmp, look, ↓reduceIte, Nat.reduceEqDiff]; try rfl) | rfl) (fun h => absurd h (by decide)) (fun _ => ?_)
    iterate 3 ((repeat first | refine Qo ?_ | refine Qn ?_); (first | (refine QK (by kernel_rfl) ?_; intro K_ hK_; simp -implicitDefEqProofs (disch := (try simp only [sl]); try omega) only [sm,QJ,Qj,Qi,Qq,QC,bd,look,aput,QI,abin,anil,ty,↓reduceIte,Nat.reduceEqDiff,Nat.reduceAdd,Nat.reduceSub,Nat.reduceMul,Int.reduceLT,Int.reduceLE,Int.reduceNeg,Int.reduceToNat,reduceCtorEq,Nat.reduceBEq,Nat.reduceBNe,Qk,Qe,Value.cells,am,mm,keep, aint, hii, hle, hlt, ha]; refine hK_ _ _ ?_; clear hK_ K_; repeat first | refine QL ?_ | refine QM ?_) | (refine awp_skip ?_; repeat first | refine QL ?_ | refine QM ?_)))
    repeat first | refine Qo ?_ | refine Qn ?_
    refine awp_if true rfl (by first | (simp only [aeval_tmp, look, ↓reduceIte, Nat.reduceEqDiff]; try rfl) | rfl) (fun _ => ?_) (fun h => absurd h (by decide))
    iterate 1 ((repeat first | refine Qo ?_ | refine Qn ?_); (first | (refine QK (by kernel_rfl) ?_; intro K_ hK_; simp -implicitDefEqProofs (disch := (try simp only [sl]); try omega) only [sm,QJ,Qj,Qi,Qq,QC,bd,look,aput,Qm,ty,↓reduceIte,Nat.reduceEqDiff,Nat.reduceAdd,Nat.reduceSub,Nat.reduceMul,Int.reduceLT,Int.reduceLE,Int.reduceNeg,Int.reduceToNat,reduceCtorEq,Nat.reduceBEq,Nat.reduceBNe,Qk,Qe,Value.cells,am,mm,keep, aint, hii, hle, hlt, ha]; refine hK_ _ _ ?_; clear hK_ K_; repeat first | refine QL ?_ | refine QM ?_)))
    first | refine awp_ret ?_ | skip
    show ∃ v, aresults Try.prog Try.f40 _ _ = some v ∧ _
    rw [aresults_1 (r := .tmp 6) (by kernel_rfl)]
    simp -implicitDefEqProofs (disch := (try simp only [sl]); try omega) only [aresult, Option.some.injEq, exists_eq_left', sm,Qj,Qi,Qq,QC,Qz,bd,QF,look,aput,QB,Qf,QA,ty,↓reduceIte,Nat.reduceEqDiff,Nat.reduceAdd,Nat.reduceSub,Nat.reduceMul,Int.reduceLT,Int.reduceLE,Int.reduceNeg,Int.reduceToNat,reduceCtorEq,Nat.reduceBEq,Nat.reduceBNe,Qk,Qe,Value.cells,am,mm,keep, aint, hii, hle, hlt, ha]
    refine ⟨⟨g, some c, D, rfl, gset _ _ _ (got_lt hg), ?_, by omega, .inl rfl⟩, (But.refl g H).set _⟩
    rw [hov, Nat.sub_self, Nat.zero_mul, List.take_zero, List.append_nil, List.take_append_of_le_length, List.take_of_length_le]
    · rw [List.length_append, List.length_take, hx]; omega
    · rw [List.length_append, List.length_take, hx]; omega
  · have hlt : ¬ (n < c ∨ n = 0) := by omega
    rw [if_neg hcap] at ha
    have fo_ : True := trivial
    have N_ := Now.start H
    have f_ := N_.has
    simp only [Has] at f_
    refine acalls_of_body Try.func40 rfl Try.ntmps40 (by simp) ?_
    simp only [argsT, Nat.reduceAdd]
    iterate 4 ((repeat first | refine Qo ?_ | refine Qn ?_); (first | (refine QK (by kernel_rfl) ?_; intro K_ hK_; simp -implicitDefEqProofs (disch := (try simp only [sl]); try omega) only [sm,QJ,Qj,Qi,Qq,QC,bd,look,aput,QI,abin,anil,Qr,aslice3,asl3,loN,hiN,ty,↓reduceIte,Nat.reduceEqDiff,Nat.reduceAdd,Nat.reduceSub,Nat.reduceMul,Int.reduceLT,Int.reduceLE,Int.reduceNeg,Int.reduceToNat,reduceCtorEq,Nat.reduceBEq,Nat.reduceBNe,Qk,Qe,Value.cells,am,mm,keep, aint, hii, hle, hlt, ha]; refine hK_ _ _ ?_; clear hK_ K_; repeat first | refine QL ?_ | refine QM ?_)))
    repeat first | refine Qo ?_ | refine Qn ?_
    refine awp_if false rfl (by first | (simp only [aeval_tmp, look, ↓reduceIte, Nat.reduceEqDiff]; try rfl) | rfl) (fun h => absurd h (by decide)) (fun _ => ?_)
    iterate 3 ((repeat first | refine Qo ?_ | refine Qn ?_); (first | (refine QK (by kernel_rfl) ?_; intro K_ hK_; simp -implicitDefEqProofs (disch := (try simp only [sl]); try omega) only [sm,QJ,Qj,Qi,Qq,QC,bd,look,aput,QI,abin,anil,ty,↓reduceIte,Nat.reduceEqDiff,Nat.reduceAdd,Nat.reduceSub,Nat.reduceMul,Int.reduceLT,Int.reduceLE,Int.reduceNeg,Int.reduceToNat,reduceCtorEq,Nat.reduceBEq,Nat.reduceBNe,Qk,Qe,Value.cells,am,mm,keep, aint, hii, hle, hlt, ha]; refine hK_ _ _ ?_; clear hK_ K_; repeat first | refine QL ?_ | refine QM ?_) | (refine awp_skip ?_; repeat first | refine QL ?_ | refine QM ?_)))
    repeat first | refine Qo ?_ | refine Qn ?_
    refine awp_if true rfl (by first | (simp only [aeval_tmp, look, ↓reduceIte, Nat.reduceEqDiff]; try rfl) | rfl) (fun _ => ?_) (fun h => absurd h (by decide))
    iterate 1 ((repeat first | refine Qo ?_ | refine Qn ?_); (first | (refine QK (by kernel_rfl) ?_; intro K_ hK_; simp -implicitDefEqProofs (disch := (try simp only [sl]); try omega) only [sm,QJ,Qj,Qi,Qq,QC,bd,look,aput,Qm,ty,↓reduceIte,Nat.reduceEqDiff,Nat.reduceAdd,Nat.reduceSub,Nat.reduceMul,Int.reduceLT,Int.reduceLE,Int.reduceNeg,Int.reduceToNat,reduceCtorEq,Nat.reduceBEq,Nat.reduceBNe,Qk,Qe,Value.cells,am,mm,keep, aint, hii, hle, hlt, ha]; refine hK_ _ _ ?_; clear hK_ K_; repeat first | refine QL ?_ | refine QM ?_)))
    first | refine awp_ret ?_ | skip
    show ∃ v, aresults Try.prog Try.f40 _ _ = some v ∧ _
    rw [aresults_1 (r := .tmp 6) (by kernel_rfl)]
    simp -implicitDefEqProofs (disch := (try simp only [sl]); try omega) only [aresult, Option.some.injEq, exists_eq_left', sm,Qj,Qi,Qq,QC,Qz,bd,QF,look,aput,QB,Qf,QA,ty,↓reduceIte,Nat.reduceEqDiff,Nat.reduceAdd,Nat.reduceSub,Nat.reduceMul,Int.reduceLT,Int.reduceLE,Int.reduceNeg,Int.reduceToNat,reduceCtorEq,Nat.reduceBEq,Nat.reduceBNe,Qk,Qe,Value.cells,am,mm,keep, aint, hii, hle, hlt, ha]
    refine ⟨⟨H.length, none, _, rfl, gpush _ _, ?_, ?_, .inr (Nat.le_refl _)⟩, But.of_ext (Ext.push _ _)⟩
    · rw [Nat.sub_self, Nat.zero_mul, List.take_zero, List.append_nil, List.take_of_length_le]
      rw [List.length_append, List.length_take, hx]; omega
    · rw [List.length_append, List.length_take, hx]; omega
set_option maxHeartbeats 8000000 in
theorem insZnr (q : Nat) (x : List Value) (H : AH) (hq : H[q]? = some (.own x)) (hx : x.length = 3) (hxc : x.all cellv = true) :
    ACalls Try.prog 40 #[.slice none 0 0, I64 0, .slice (some ⟨q, 0, none⟩) 1 3] H fun w H' =>
      w = .slice (some ⟨H.length, 0, none⟩) 1 3 ∧ H' = H ++ [.own x] := by
  have hel : elemT Try.prog 38 = some (3, 24) := by simp only [ty]
  have hsl : sliceT Try.prog 38 = true := by simp only [ty]
  have ha : aappend Try.prog H 38 38 (.slice none 0 0) (.slice (some ⟨q, 0, none⟩) 1 3) = some (.slice (some ⟨H.length, 0, none⟩) 1 3, H ++ [.own x]) := by
    have hsrc : asrcZ Try.prog H 38 38 (.slice (some ⟨q, 0, none⟩) 1 3) 3 24 = some (x, 1) := by
      rw [asrcZ_slice hsl]
      unfold asrc
      simp only [hsl, if_true, AH.cells_own hq, Nat.one_mul, Nat.zero_add, List.drop_zero]
      rw [if_neg (by decide), List.take_of_length_le (by omega), if_pos ⟨by omega, hxc⟩]
    unfold aappend
    simp only [hel, hsrc]
    rw [if_neg (by decide), if_pos ⟨by decide, by decide⟩]
  have fo_ : True := trivial
  have N_ := Now.start H
  have f_ := N_.has
  simp only [Has] at f_
  refine acalls_of_body Try.func40 rfl Try.ntmps40 (by simp) ?_
  simp only [argsT, Nat.reduceAdd]
  iterate 4 ((repeat first | refine Qo ?_ | refine Qn ?_); (first | (refine QK (by kernel_rfl) ?_; intro K_ hK_; simp -implicitDefEqProofs (disch := (try simp only [sl]); try omega) only [sm,QJ,Qj,Qi,Qq,QC,bd,look,aput,QI,abin,anil,Qr,aslice3,asl3,loN,hiN,ty,↓reduceIte,Nat.reduceEqDiff,Nat.reduceAdd,Nat.reduceSub,Nat.reduceMul,Int.reduceLT,Int.reduceLE,Int.reduceNeg,Int.reduceToNat,reduceCtorEq,Nat.reduceBEq,Nat.reduceBNe,Qk,Qe,Value.cells,am,mm,keep, aint, ha]; refine hK_ _ _ ?_; clear hK_ K_; repeat first | refine QL ?_ | refine QM ?_)))
  repeat first | refine Qo ?_ | refine Qn ?_
  refine awp_if false rfl (by first | (simp only [aeval_tmp, look, ↓reduceIte, Nat.reduceEqDiff]; try rfl) | rfl) (fun h => absurd h (by decide)) (fun _ => ?_)
  iterate 3 ((repeat first | refine Qo ?_ | refine Qn ?_); (first | (refine QK (by kernel_rfl) ?_; intro K_ hK_; simp -implicitDefEqProofs (disch := (try simp only [sl]); try omega) only [sm,QJ,Qj,Qi,Qq,QC,bd,look,aput,QI,abin,anil,ty,↓reduceIte,Nat.reduceEqDiff,Nat.reduceAdd,Nat.reduceSub,Nat.reduceMul,Int.reduceLT,Int.reduceLE,Int.reduceNeg,Int.reduceToNat,reduceCtorEq,Nat.reduceBEq,Nat.reduceBNe,Qk,Qe,Value.cells,am,mm,keep, aint, ha]; refine hK_ _ _ ?_; clear hK_ K_; repeat first | refine QL ?_ | refine QM ?_) | (refine awp_skip ?_; repeat first | refine QL ?_ | refine QM ?_)))
  repeat first | refine Qo ?_ | refine Qn ?_
  refine awp_if true rfl (by first | (simp only [aeval_tmp, look, ↓reduceIte, Nat.reduceEqDiff]; try rfl) | rfl) (fun _ => ?_) (fun h => absurd h (by decide))
  iterate 1 ((repeat first | refine Qo ?_ | refine Qn ?_); (first | (refine QK (by kernel_rfl) ?_; intro K_ hK_; simp -implicitDefEqProofs (disch := (try simp only [sl]); try omega) only [sm,QJ,Qj,Qi,Qq,QC,bd,look,aput,Qm,ty,↓reduceIte,Nat.reduceEqDiff,Nat.reduceAdd,Nat.reduceSub,Nat.reduceMul,Int.reduceLT,Int.reduceLE,Int.reduceNeg,Int.reduceToNat,reduceCtorEq,Nat.reduceBEq,Nat.reduceBNe,Qk,Qe,Value.cells,am,mm,keep, aint, ha]; refine hK_ _ _ ?_; clear hK_ K_; repeat first | refine QL ?_ | refine QM ?_)))
  first | refine awp_ret ?_ | skip
  show ∃ v, aresults Try.prog Try.f40 _ _ = some v ∧ _
  rw [aresults_1 (r := .tmp 6) (by kernel_rfl)]
  simp -implicitDefEqProofs (disch := (try simp only [sl]); try omega) only [aresult, Option.some.injEq, exists_eq_left', sm,Qj,Qi,Qq,QC,Qz,bd,QF,look,aput,QB,Qf,QA,ty,↓reduceIte,Nat.reduceEqDiff,Nat.reduceAdd,Nat.reduceSub,Nat.reduceMul,Int.reduceLT,Int.reduceLE,Int.reduceNeg,Int.reduceToNat,reduceCtorEq,Nat.reduceBEq,Nat.reduceBNe,Qk,Qe,Value.cells,am,mm,keep, aint, ha]
set_option maxHeartbeats 8000000 in
theorem insZor (g q : Nat) (C x : List Value) (H : AH) (hg : H[g]? = some (.own C)) (hq : H[q]? = some (.own x)) (hx : x.length = 3) (hxc : x.all cellv = true) :
    ACalls Try.prog 40 #[.slice (some ⟨g, 0, none⟩) 0 3, I64 0, .slice (some ⟨q, 0, none⟩) 1 3] H fun w H' =>
      w = .slice (some ⟨H.length, 0, none⟩) 1 3 ∧ H' = H.set g .dead ++ [.own x] := by
  have hel : elemT Try.prog 38 = some (3, 24) := by simp only [ty]
  have hsl : sliceT Try.prog 38 = true := by simp only [ty]
  have ha : aappend Try.prog H 38 38 (.slice (some ⟨g, 0, none⟩) 0 3) (.slice (some ⟨q, 0, none⟩) 1 3) = some (.slice (some ⟨H.length, 0, none⟩) 1 3, H.set g .dead ++ [.own x]) := by
    have hsrc : asrcZ Try.prog H 38 38 (.slice (some ⟨q, 0, none⟩) 1 3) 3 24 = some (x, 1) := by
      rw [asrcZ_slice hsl]
      unfold asrc
      simp only [hsl, if_true, AH.cells_own hq, Nat.one_mul, Nat.zero_add, List.drop_zero]
      rw [if_neg (by decide), List.take_of_length_le (by omega), if_pos ⟨by omega, hxc⟩]
    unfold aappend
    simp only [hel, hsrc, hg]
    rw [if_neg (by decide), if_pos ⟨trivial, by decide, by omega, by decide, by decide⟩]
    simp
  have fo_ : True := trivial
  have N_ := Now.start H
  have f_ := N_.has
  simp only [Has] at f_
  refine acalls_of_body Try.func40 rfl Try.ntmps40 (by simp) ?_
  simp only [argsT, Nat.reduceAdd]
  iterate 4 ((repeat first | refine Qo ?_ | refine Qn ?_); (first | (refine QK (by kernel_rfl) ?_; intro K_ hK_; simp -implicitDefEqProofs (disch := (try simp only [sl]); try omega) only [sm,QJ,Qj,Qi,Qq,QC,bd,look,aput,QI,abin,anil,Qr,aslice3,asl3,loN,hiN,ty,↓reduceIte,Nat.reduceEqDiff,Nat.reduceAdd,Nat.reduceSub,Nat.reduceMul,Int.reduceLT,Int.reduceLE,Int.reduceNeg,Int.reduceToNat,reduceCtorEq,Nat.reduceBEq,Nat.reduceBNe,Qk,Qe,Value.cells,am,mm,keep, aint, ha]; refine hK_ _ _ ?_; clear hK_ K_; repeat first | refine QL ?_ | refine QM ?_)))
  repeat first | refine Qo ?_ | refine Qn ?_
  refine awp_if false rfl (by first | (simp only [aeval_tmp, look, ↓reduceIte, Nat.reduceEqDiff]; try rfl) | rfl) (fun h => absurd h (by decide)) (fun _ => ?_)
  iterate 3 ((repeat first | refine Qo ?_ | refine Qn ?_); (first | (refine QK (by kernel_rfl) ?_; intro K_ hK_; simp -implicitDefEqProofs (disch := (try simp only [sl]); try omega) only [sm,QJ,Qj,Qi,Qq,QC,bd,look,aput,QI,abin,anil,ty,↓reduceIte,Nat.reduceEqDiff,Nat.reduceAdd,Nat.reduceSub,Nat.reduceMul,Int.reduceLT,Int.reduceLE,Int.reduceNeg,Int.reduceToNat,reduceCtorEq,Nat.reduceBEq,Nat.reduceBNe,Qk,Qe,Value.cells,am,mm,keep, aint, ha]; refine hK_ _ _ ?_; clear hK_ K_; repeat first | refine QL ?_ | refine QM ?_) | (refine awp_skip ?_; repeat first | refine QL ?_ | refine QM ?_)))
  repeat first | refine Qo ?_ | refine Qn ?_
  refine awp_if true rfl (by first | (simp only [aeval_tmp, look, ↓reduceIte, Nat.reduceEqDiff]; try rfl) | rfl) (fun _ => ?_) (fun h => absurd h (by decide))
  iterate 1 ((repeat first | refine Qo ?_ | refine Qn ?_); (first | (refine QK (by kernel_rfl) ?_; intro K_ hK_; simp -implicitDefEqProofs (disch := (try simp only [sl]); try omega) only [sm,QJ,Qj,Qi,Qq,QC,bd,look,aput,Qm,ty,↓reduceIte,Nat.reduceEqDiff,Nat.reduceAdd,Nat.reduceSub,Nat.reduceMul,Int.reduceLT,Int.reduceLE,Int.reduceNeg,Int.reduceToNat,reduceCtorEq,Nat.reduceBEq,Nat.reduceBNe,Qk,Qe,Value.cells,am,mm,keep, aint, ha]; refine hK_ _ _ ?_; clear hK_ K_; repeat first | refine QL ?_ | refine QM ?_)))
  first | refine awp_ret ?_ | skip
  show ∃ v, aresults Try.prog Try.f40 _ _ = some v ∧ _
  rw [aresults_1 (r := .tmp 6) (by kernel_rfl)]
  simp -implicitDefEqProofs (disch := (try simp only [sl]); try omega) only [aresult, Option.some.injEq, exists_eq_left', sm,Qj,Qi,Qq,QC,Qz,bd,QF,look,aput,QB,Qf,QA,ty,↓reduceIte,Nat.reduceEqDiff,Nat.reduceAdd,Nat.reduceSub,Nat.reduceMul,Int.reduceLT,Int.reduceLE,Int.reduceNeg,Int.reduceToNat,reduceCtorEq,Nat.reduceBEq,Nat.reduceBNe,Qk,Qe,Value.cells,am,mm,keep, aint, ha]
/-- A run put into a slice of runs at a place. -/
theorem insR_calls (s : Value) (l : List Rn) (x : Rn) (i q b : Nat) (H : AH) (hs : DG ruc 3 b H s l) (hb : b ≤ H.length) (hq : H[q]? = some (.own (ruc x))) (hsq : ∀ o n e, s ≠ .slice (some ⟨q, o, none⟩) n e) (hi : i ≤ l.length) (hn : l.length ≤ 1000) :
    ACalls Try.prog 40 #[s, I64 i, .slice (some ⟨q, 0, none⟩) 1 3] H fun w H' =>
      DG ruc 3 b H' w (l.take i ++ x :: l.drop i) ∧ Rest s H H' ∧ Frm s w H := by
  have hx := ruc_length x
  have hxc := ruc_cellv x
  have hlen : (l.take i ++ x :: l.drop i).length = l.length + 1 := by rw [List.length_append, List.length_cons, List.length_take, List.length_drop]; omega
  have hfl : ((l.take i ++ x :: l.drop i).map ruc).flatten = ((l.take i).map ruc).flatten ++ ruc x ++ ((l.drop i).map ruc).flatten := by
    rw [List.map_append, List.map_cons, List.flatten_append, List.flatten_cons, List.append_assoc]
  rcases hs with ⟨rfl, rfl⟩ | ⟨g, C, rfl, hg, hCl, hCt, hbg⟩
  · obtain rfl : i = 0 := by simpa using hi
    refine (insZnr q (ruc x) H hq hx hxc).mono ?_
    rintro w H' ⟨rfl, rfl⟩
    refine ⟨.inr ⟨H.length, ruc x, rfl, gpush _ _, by simp [hx], ?_, hb⟩, Rest.of_ext (Ext.push _ _), Frm.new⟩
    simp [hx]; rfl
  · have hgq : g ≠ q := fun e => hsq 0 l.length 3 (by rw [e])
    by_cases hl : l = []
    · subst hl
      obtain rfl : i = 0 := by simpa using hi
      refine (insZor g q C (ruc x) H hg hq hx hxc).mono ?_
      rintro w H' ⟨rfl, rfl⟩
      have h1 : (H.set g ABlk.dead).length = H.length := List.length_set
      refine ⟨.inr ⟨H.length, ruc x, rfl, ?_, by simp [hx], ?_, hb⟩, fun p y hp hy => Ext.push _ _ _ _ ?_, Frm.new⟩
      · rw [← h1]; exact gpush _ _
      · simp [hx]; rfl
      · rw [List.getElem?_set_ne (fun e => hp 0 0 3 (by rw [e]; rfl))]; exact hy
    · have hn0 := List.length_pos_iff.2 hl
      have hgl := got_lt hg
      refine ACalls.unX (acalls_X hg hn0 (by decide) fun c hc => ?_) (R := fun w H' => (∃ g' s C', w = .slice (some ⟨g', 0, s⟩) (l.length + 1) 3 ∧ H'[g']? = some (.own C') ∧ C'.take ((l.length + 1) * 3) = ((l.take i).map ruc).flatten ++ ruc x ++ ((l.drop i).map ruc).flatten ∧ (l.length + 1) * 3 ≤ C'.length ∧ (g' = g ∨ H.length ≤ g')) ∧ But g H H') ?_
      · have hp := padTo_len C (0 + c * 3)
        have h1 : (padTo C (0 + c * 3)).take (l.length * 3) = (l.map ruc).flatten := by rw [padTo_takek _ _ _ hCl, hCt]
        have h2 : (padTo C (0 + c * 3)).take (i * 3) = ((l.take i).map ruc).flatten := by
          rw [← flat_take 3 ruc l (ruc_hl l), ← h1, List.take_take, Nat.min_eq_left (by omega)]
        have h3 : ((padTo C (0 + c * 3)).drop (i * 3)).take ((l.length - i) * 3) = ((l.drop i).map ruc).flatten := by
          rw [← flat_drop 3 ruc l (ruc_hl l), ← h1, List.drop_take, ← Nat.sub_mul]
        have h4 : ((padTo C (0 + c * 3)).take (l.length * 3)).all cellv = true := by
          rw [h1, List.all_eq_true]
          intro y hy
          rw [List.mem_flatten] at hy
          obtain ⟨u, hu, hy⟩ := hy
          rw [List.mem_map] at hu
          obtain ⟨p, _, rfl⟩ := hu
          exact List.all_eq_true.1 (ruc_cellv p) y hy
        generalize padTo C (0 + c * 3) = D at *
        have g1 : (H.set g (.own D))[g]? = some (.own D) := gset _ _ _ hgl
        have q1 : (H.set g (.own D))[q]? = some (.own (ruc x)) := (gsetn H g q _ hgq).trans hq
        have fin : ∀ (w : Value) (H' : AH), ((∃ g' s C', w = .slice (some ⟨g', 0, s⟩) (l.length + 1) 3 ∧ H'[g']? = some (.own C') ∧ C'.take ((l.length + 1) * 3) = D.take (i * 3) ++ ruc x ++ (D.drop (i * 3)).take ((l.length - i) * 3) ∧ (l.length + 1) * 3 ≤ C'.length ∧ (g' = g ∨ (H.set g (.own D)).length ≤ g')) ∧ But g (H.set g (.own D)) H') →
            (∃ g' s C', w = .slice (some ⟨g', 0, s⟩) (l.length + 1) 3 ∧ H'[g']? = some (.own C') ∧ C'.take ((l.length + 1) * 3) = ((l.take i).map ruc).flatten ++ ruc x ++ ((l.drop i).map ruc).flatten ∧ (l.length + 1) * 3 ≤ C'.length ∧ (g' = g ∨ H.length ≤ g')) ∧ But g H H' := by
          rintro w H' ⟨⟨g', s, C', e1, e2, e3, e4, e5⟩, e6⟩
          rw [h2, h3] at e3
          rw [List.length_set] at e5
          exact ⟨⟨g', s, C', e1, e2, e3, e4, e5⟩, ((But.refl g H).set _).trans e6⟩
        rcases Nat.lt_or_ge i l.length with hil | hil
        · exact (insXr g q l.length i c D (ruc x) _ hgq g1 q1 hx hxc hn hil hc (by omega) h4).mono fin
        · obtain rfl : i = l.length := by omega
          exact (insNr g q l.length c D (ruc x) _ hgq g1 q1 hx hxc hn hn0 hc (by omega) h4).mono fin
      · rintro w H' ⟨⟨g', s, C', rfl, e2, e3, e4, e5⟩, e6⟩
        refine ⟨.inr ⟨g', C', ?_, e2, by rw [hlen]; exact e4, by rw [hlen, e3, hfl], by omega⟩, Rest.of_but e6, ?_⟩
        · rw [hlen]
          cases s <;> rfl
        · intro p o n e k
          have : p = g' := by cases s <;> (cases k; rfl)
          rcases e5 with rfl | e5
          · exact .inr ⟨_, _, _, by rw [this]⟩
          · exact .inl (by omega)
end Go.Proofs.Ytldfnfpinemedaa
