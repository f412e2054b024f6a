/- slices.Insert of one run. -/
import Derived.Test.YtldfnfpinemedaaXo
import Derived.Test.YtldfnfpinemedaaBda
import Derived.Test.YtldfnfpinemedaaC8
import Derived.Test.YtldfnfpinemedaaCsm
import Derived.Test.YtldfnfpinemedaaSst
import Derived.Test.YtldfnfpinemedaaRot
namespace Go.Proofs.Ytldfnfpinemedaa
open Go Go.RowKit
--hide
set_option linter.unusedSimpArgs false
set_option linter.unusedVariables false
set_option maxRecDepth 4000
theorem ovR : OvF Try.prog 58 := by
  refine ⟨_, 38, 4, 44, rfl, by kernel_rfl, by kernel_rfl, by kernel_rfl, by kernel_rfl, by kernel_rfl, by kernel_rfl⟩
set_option maxHeartbeats 8000000 in
theorem insXr (g q n i c : Nat) (C x : List Value) (H : AH) (hgq : g ≠ q) (hg : H[g]? = some (.own C)) (hq : H[q]? = some (.own x)) (hx : x.length = 3) (hxc : x.all cellv = true) (hn : n ≤ 1000) (hi : i < n) (hc : n ≤ c) (hcC : c * 3 ≤ C.length) (hCv : (C.take (n * 3)).all cellv = true) :
    ACalls Try.prog 40 #[.slice (some ⟨g, 0, some c⟩) n 3, I64 i, .slice (some ⟨q, 0, none⟩) 1 3] H fun w H' =>
      (∃ g' s C', w = .slice (some ⟨g', 0, s⟩) (n + 1) 3 ∧ H'[g']? = some (.own C') ∧ C'.take ((n + 1) * 3) = C.take (i * 3) ++ x ++ (C.drop (i * 3)).take ((n - i) * 3) ∧ (n + 1) * 3 ≤ C'.length ∧ (g' = g ∨ H.length ≤ g')) ∧ But g H H' := by
  have w1 : IntKind.i64.wrap ((n : Int) + 1) = ((n + 1 : Nat) : Int) := by rw [wi64 _ (by omega) (by omega)]; omega
  have w2 : IntKind.i64.wrap ((i : Int) + 1) = ((i + 1 : Nat) : Int) := by rw [wi64 _ (by omega) (by omega)]; omega
  have hin : ((i : Int) == (n : Int)) = false := by simp; omega
  have hil : i ≤ c := by omega
  have hic : i < c ∨ i = 0 := by omega
  have hle : i ≤ n := by omega
  have hel : elemT Try.prog 38 = some (3, 24) := by simp only [ty]
  have hsl : sliceT Try.prog 38 = true := by simp only [ty]
  have hxt : x.take 3 = x := by rw [List.take_of_length_le (by omega)]
  have hmv : ((C.drop (i * 3)).take ((n - i) * 3)).all cellv = true := by
    rw [List.all_eq_true] at hCv ⊢
    intro y hy
    apply hCv
    have : (C.drop (i * 3)).take ((n - i) * 3) = (C.take (n * 3)).drop (i * 3) := by rw [List.drop_take, ← Nat.sub_mul]
    rw [this] at hy
    exact List.mem_of_mem_drop hy
  have hqc := AH.cells_own hq
  have hgc := AH.cells_own hg
  have hgl := got_lt hg
  have hql := got_lt hq
  have fo_ : True := trivial
  have N_ := Now.start H
  have f_ := N_.has
  simp only [Has] at f_
  refine acalls_of_body Try.func40 rfl Try.ntmps40 (by simp) ?_
  simp only [argsT, Nat.reduceAdd]
  iterate 4 ((repeat first | refine Qo ?_ | refine Qn ?_); (first | (refine QK (by kernel_rfl) ?_; intro K_ hK_; simp -implicitDefEqProofs (disch := (try simp only [sl]); try omega) only [sm,QJ,Qj,Qi,Qq,QC,bd,look,aput,QI,abin,anil,Qr,aslice3,asl3,loN,hiN,ty,↓reduceIte,Nat.reduceEqDiff,Nat.reduceAdd,Nat.reduceSub,Nat.reduceMul,Int.reduceLT,Int.reduceLE,Int.reduceNeg,Int.reduceToNat,reduceCtorEq,Nat.reduceBEq,Nat.reduceBNe,Qk,Qe,Value.cells,am,mm,keep, aint, w1, w2, hin, hil, hic, hle]; refine hK_ _ _ ?_; clear hK_ K_; repeat first | refine QL ?_ | refine QM ?_)))
  repeat first | refine Qo ?_ | refine Qn ?_
  refine awp_if false rfl (by first | (simp only [aeval_tmp, look, ↓reduceIte, Nat.reduceEqDiff]; try rfl) | rfl) (fun h => absurd h (by decide)) (fun _ => ?_)
  iterate 3 ((repeat first | refine Qo ?_ | refine Qn ?_); (first | (refine QK (by kernel_rfl) ?_; intro K_ hK_; simp -implicitDefEqProofs (disch := (try simp only [sl]); try omega) only [sm,QJ,Qj,Qi,Qq,QC,bd,look,aput,QI,abin,anil,ty,↓reduceIte,Nat.reduceEqDiff,Nat.reduceAdd,Nat.reduceSub,Nat.reduceMul,Int.reduceLT,Int.reduceLE,Int.reduceNeg,Int.reduceToNat,reduceCtorEq,Nat.reduceBEq,Nat.reduceBNe,Qk,Qe,Value.cells,am,mm,keep, aint, w1, w2, hin, hil, hic, hle]; refine hK_ _ _ ?_; clear hK_ K_; repeat first | refine QL ?_ | refine QM ?_) | (refine awp_skip ?_; repeat first | refine QL ?_ | refine QM ?_)))
  repeat first | refine Qo ?_ | refine Qn ?_
  refine awp_if false rfl (by first | (simp only [aeval_tmp, look, ↓reduceIte, Nat.reduceEqDiff]; try rfl) | rfl) (fun h => absurd h (by decide)) (fun _ => ?_)
  by_cases hcap : c < n + 1
  · have hgt : ((n + 1 : Nat) : Int) > (c : Int) := by omega
    have w3 : IntKind.i64.wrap (((n + 1 : Nat) : Int) - (i : Int)) = ((n + 1 - i : Nat) : Int) := by rw [wi64 _ (by omega) (by omega)]; omega
    have n1 : i ≤ n + 1 := by omega
    have n2 : i + 1 ≤ n + 1 := by omega
    have n3 : i < n + 1 ∨ i = 0 := by omega
    have n4 : i + 1 < n + 1 ∨ i + 1 = 0 := by omega
    obtain ⟨Z, hZl, e0⟩ := app_zX (P := Try.prog) (H := H) (t := 38) (tx := 3) (n := i) (m := n + 1 - i) (c := c) (k := .i64) hel (by kernel_rfl) (by decide) hg (by omega) (by omega) (by omega) (by omega) (by omega)
    rw [show i + (n + 1 - i) = n + 1 by omega] at e0
    iterate 2 ((repeat first | refine Qo ?_ | refine Qn ?_); (first | (refine QK (by kernel_rfl) ?_; intro K_ hK_; simp -implicitDefEqProofs (disch := (try simp only [sl]); try omega) only [sm,QJ,Qj,Qi,Qq,QC,bd,look,aput,QI,abin,anil,acap,ty,↓reduceIte,Nat.reduceEqDiff,Nat.reduceAdd,Nat.reduceSub,Nat.reduceMul,Int.reduceLT,Int.reduceLE,Int.reduceNeg,Int.reduceToNat,reduceCtorEq,Nat.reduceBEq,Nat.reduceBNe,Qk,Qe,Value.cells,am,mm,keep, aint, w1, w2, hil, hic, hle, hgt, w3, Nat.sub_zero, n1, n2, n3, n4, e0]; refine hK_ _ _ ?_; clear hK_ K_; repeat first | refine QL ?_ | refine QM ?_) | (refine awp_skip ?_; repeat first | refine QL ?_ | refine QM ?_)))
    repeat first | refine Qo ?_ | refine Qn ?_
    refine awp_if true rfl (by first | (simp only [aeval_tmp, look, ↓reduceIte, Nat.reduceEqDiff]; try rfl) | rfl) (fun _ => ?_) (fun h => absurd h (by decide))
    iterate 1 ((repeat first | refine Qo ?_ | refine Qn ?_); (first | (refine QK (by kernel_rfl) ?_; intro K_ hK_; simp -implicitDefEqProofs (disch := (try simp only [sl]); try omega) only [sm,QJ,Qj,Qi,Qq,QC,bd,look,aput,Qm,QI,abin,anil,Qr,aslice3,asl3,loN,hiN,ty,↓reduceIte,Nat.reduceEqDiff,Nat.reduceAdd,Nat.reduceSub,Nat.reduceMul,Int.reduceLT,Int.reduceLE,Int.reduceNeg,Int.reduceToNat,reduceCtorEq,Nat.reduceBEq,Nat.reduceBNe,Qk,Qe,Value.cells,am,mm,keep, aint, w1, w2, hil, hic, hle, hgt, w3, Nat.sub_zero, n1, n2, n3, n4, e0]; refine hK_ _ _ ?_; clear hK_ K_; repeat first | refine QL ?_ | refine QM ?_)))
    first | refine AWp.snap8 N_ ?_ | refine AWp.snap7 N_ ?_ | refine AWp.snap6 N_ ?_ | refine AWp.snap5 N_ ?_ | refine AWp.snap4 N_ ?_ | refine AWp.snap3 N_ ?_ | refine AWp.snap2 N_ ?_ | refine AWp.snap1 N_ ?_
    clear fo_; have fo_ := f_; clear f_ N_; intro H1 xH1 lH1 N_
    have f_ := N_.has
    simp only [Has] at f_
    obtain ⟨D, hD⟩ : ∃ D, D = C.take (i * 3) ++ Z := ⟨_, rfl⟩
    rw [← hD] at f_
    have hpl : (C.take (i * 3)).length = i * 3 := by rw [List.length_take]; omega
    have hDl : D.length = (n + 1) * 3 := by rw [hD, List.length_append, hpl, hZl]; omega
    have g1 := f_.1.2.1
    have q1 := xH1 _ _ hq
    have k1 := xH1 _ _ hg
    have e1 := copy_dn (P := Try.prog) (H := H1) (t := 38) (tx := 38) (g := H.length) (o := i * 3) (n := n + 1 - i) (e := 3) (g2 := q) (o2 := 0) (m := 1) (e2 := 3) (sp := none) (sp2 := none) (vs := x) hel hsl (by omega) (by omega) g1 (AH.cells_own q1) (by rw [List.drop_zero, Nat.one_mul, hxt]) (by omega) hxc (by omega)
    obtain ⟨D1, hD1⟩ : ∃ D1, D1 = ovr D (i * 3) x := ⟨_, rfl⟩
    have l1 : D1.length = D.length := by rw [hD1]; exact ovr_length (by omega)
    rw [← hD1] at e1
    have g2 : (H1.set H.length (.own D1))[H.length]? = some (.own D1) := gset _ _ _ (by omega)
    have k2 : (H1.set H.length (.own D1))[g]? = some (.own C) := (gsetn H1 H.length g _ (by omega)).trans k1
    have e2 := copy_up (P := Try.prog) (H := H1.set H.length (.own D1)) (t := 38) (tx := 38) (g := H.length) (o := (i + 1) * 3) (n := n + 1 - (i + 1)) (e := 3) (g2 := g) (o2 := i * 3) (m := n - i) (e2 := 3) (sp := none) (sp2 := some (c - i)) (vs := (C.drop (i * 3)).take ((n - i) * 3)) hel hsl (by omega) (by omega) g2 (AH.cells_own k2) (by rw [show n + 1 - (i + 1) = n - i by omega]) (by omega) hmv (by omega)
    obtain ⟨D2, hD2⟩ : ∃ D2, D2 = ovr D1 ((i + 1) * 3) ((C.drop (i * 3)).take ((n - i) * 3)) := ⟨_, rfl⟩
    rw [← hD2] at e2
    have hml : ((C.drop (i * 3)).take ((n - i) * 3)).length = (n - i) * 3 := by rw [List.length_take, List.length_drop]; omega
    have hr : D2 = C.take (i * 3) ++ x ++ (C.drop (i * 3)).take ((n - i) * 3) := by
      have := ins_new (C.take (i * 3)) Z x ((C.drop (i * 3)).take ((n - i) * 3)) (by rw [hZl, hx, hml]; omega)
      rw [hpl, ← hD, hx, ← hD1, show i * 3 + 3 = (i + 1) * 3 by omega, ← hD2] at this
      exact this
    have l2 : D2.length = (n + 1) * 3 := by rw [hD2, ← hDl, ← l1]; exact ovr_length (by rw [hml]; omega)
    iterate 3 ((repeat first | refine Qo ?_ | refine Qn ?_); (first | ((first | refine QK (by kernel_rfl) ?_ | refine awp_region_drawK (id := 11) [(0, []), (1, []), (2, []), (3, []), (4, []), (5, []), (6, []), (7, []), (8, [])] mixed (by kernel_rfl) ?_); intro K_ hK_; simp -implicitDefEqProofs (disch := (try simp only [sl]); try omega) only [sm,QJ,aSel,Qu,Qv,Qw,Qx,Qy,Qj,Qi,Qq,QC,bd,look,aput,Qm,QI,abin,anil,Qr,aslice3,asl3,loN,hiN,ty,↓reduceIte,Nat.reduceEqDiff,Nat.reduceAdd,Nat.reduceSub,Nat.reduceMul,Int.reduceLT,Int.reduceLE,Int.reduceNeg,Int.reduceToNat,reduceCtorEq,Nat.reduceBEq,Nat.reduceBNe,Qk,Qe,Value.cells,am,mm,keep, aint, w1, w2, hil, hic, hle, hgt, w3, Nat.sub_zero, n1, n2, n3, n4, e1, e2]; refine hK_ _ _ ?_; clear hK_ K_; repeat first | refine QL ?_ | refine QM ?_)))
    first | refine awp_ret ?_ | skip
    show ∃ v, aresults Try.prog Try.f40 _ _ = some v ∧ _
    rw [aresults_1 (r := .tmp 6) (by kernel_rfl)]
    simp -implicitDefEqProofs (disch := (try simp only [sl]); try omega) only [aresult, Option.some.injEq, exists_eq_left', sm,Qj,Qi,Qq,QC,Qz,bd,QF,look,aput,QB,Qf,QA,ty,↓reduceIte,Nat.reduceEqDiff,Nat.reduceAdd,Nat.reduceSub,Nat.reduceMul,Int.reduceLT,Int.reduceLE,Int.reduceNeg,Int.reduceToNat,reduceCtorEq,Nat.reduceBEq,Nat.reduceBNe,Qk,Qe,Value.cells,am,mm,keep, aint, w1, w2, hil, hic, hle, hgt, w3, Nat.sub_zero, n1, n2, n3, n4, e1, e2]
    exact ⟨⟨H.length, none, D2, rfl, gset _ _ _ (by omega), by rw [← l2, List.take_length]; exact hr, by omega, .inr (Nat.le_refl _)⟩, (But.of_ext xH1).setnew (Nat.le_refl _) _⟩
  · have hgt : ¬ ((n + 1 : Nat) : Int) > (c : Int) := by omega
    have h3 : n + 1 ≤ c := by omega
    have h4 : i + 1 ≤ n + 1 := by omega
    have h5 : i + 1 < c := by omega
    have h6 : i ≤ n + 1 := by omega
    have e1 := copy_up (P := Try.prog) (H := H) (t := 38) (tx := 38) (g := g) (o := (i + 1) * 3) (n := n + 1 - (i + 1)) (e := 3) (g2 := g) (o2 := i * 3) (m := n + 1 - i) (e2 := 3) (sp := some (c - (i + 1))) (sp2 := some (c - i)) (vs := (C.drop (i * 3)).take ((n - i) * 3)) hel hsl (by omega) (by omega) hg hgc (by rw [show n + 1 - (i + 1) = n - i by omega]) (by omega) hmv (by omega)
    obtain ⟨C1, hC1⟩ : ∃ C1, C1 = ovr C ((i + 1) * 3) ((C.drop (i * 3)).take ((n - i) * 3)) := ⟨_, rfl⟩
    have l1 : C1.length = C.length := by rw [hC1]; exact ovr_length (by rw [List.length_take, List.length_drop]; omega)
    rw [← hC1] at e1
    have g1 : (H.set g (.own C1))[g]? = some (.own C1) := gset _ _ _ hgl
    have q1 : (H.set g (.own C1))[q]? = some (.own x) := (gsetn H g q _ hgq).trans hq
    have e2 := copy_dn (P := Try.prog) (H := H.set g (.own C1)) (t := 38) (tx := 38) (g := g) (o := i * 3) (n := n + 1 - i) (e := 3) (g2 := q) (o2 := 0) (m := 1) (e2 := 3) (sp := some (c - i)) (sp2 := none) (vs := x) hel hsl (by omega) (by omega) g1 (AH.cells_own q1) (by rw [List.drop_zero, Nat.one_mul, hxt]) (by omega) hxc (by omega)
    obtain ⟨C2, hC2⟩ : ∃ C2, C2 = ovr C1 (i * 3) x := ⟨_, rfl⟩
    rw [← hC2] at e2
    have l2 : C2.length = C.length := by rw [hC2, ← l1]; exact ovr_length (by omega)
    have hr : C2.take ((n + 1) * 3) = C.take (i * 3) ++ x ++ (C.drop (i * 3)).take ((n - i) * 3) := by
      have := ins_room C x (i * 3) (n * 3) (by omega) (by omega)
      rw [hx, ← Nat.sub_mul, show i * 3 + 3 = (i + 1) * 3 by omega, ← hC1, ← hC2] at this
      rw [this, List.take_append_of_le_length, List.take_of_length_le]
      · simp only [List.length_append, List.length_take, List.length_drop, hx]; omega
      · simp only [List.length_append, List.length_take, List.length_drop, hx]; omega
    have e12 : n + 1 - (i + 1) = n - i := by omega
    iterate 2 ((repeat first | refine Qo ?_ | refine Qn ?_); (first | (refine QK (by kernel_rfl) ?_; intro K_ hK_; simp -implicitDefEqProofs (disch := (try simp only [sl]); try omega) only [sm,QJ,Qj,Qi,Qq,QC,bd,look,aput,QI,abin,anil,acap,ty,↓reduceIte,Nat.reduceEqDiff,Nat.reduceAdd,Nat.reduceSub,Nat.reduceMul,Int.reduceLT,Int.reduceLE,Int.reduceNeg,Int.reduceToNat,reduceCtorEq,Nat.reduceBEq,Nat.reduceBNe,Qk,Qe,Value.cells,am,mm,keep, aint, w1, w2, hil, hic, hle, hgt, h3, h4, h5, h6, Nat.sub_zero, e1, e2]; refine hK_ _ _ ?_; clear hK_ K_; repeat first | refine QL ?_ | refine QM ?_) | (refine awp_skip ?_; repeat first | refine QL ?_ | refine QM ?_)))
    repeat first | refine Qo ?_ | refine Qn ?_
    refine awp_if false rfl (by first | (simp only [aeval_tmp, look, ↓reduceIte, Nat.reduceEqDiff]; try rfl) | rfl) (fun h => absurd h (by decide)) (fun _ => ?_)
    iterate 2 ((repeat first | refine Qo ?_ | refine Qn ?_); (first | (refine QK (by kernel_rfl) ?_; intro K_ hK_; simp -implicitDefEqProofs (disch := (try simp only [sl]); try omega) only [sm,QJ,Qj,Qi,Qq,QC,bd,look,aput,Qm,QI,abin,anil,QG,Qr,aslice3,asl3,loN,hiN,ty,↓reduceIte,Nat.reduceEqDiff,Nat.reduceAdd,Nat.reduceSub,Nat.reduceMul,Int.reduceLT,Int.reduceLE,Int.reduceNeg,Int.reduceToNat,reduceCtorEq,Nat.reduceBEq,Nat.reduceBNe,Qk,Qe,Value.cells,am,mm,keep, aint, w1, w2, hil, hic, hle, hgt, h3, h4, h5, h6, Nat.sub_zero, e1, e2]; refine hK_ _ _ ?_; clear hK_ K_; repeat first | refine QL ?_ | refine QM ?_) | (refine awp_skip ?_; repeat first | refine QL ?_ | refine QM ?_)))
    (repeat first | refine Qo ?_ | refine Qn ?_); refine QK (by kernel_rfl) ?_; intro K_ hK_; simp -implicitDefEqProofs (disch := (try simp only [sl]); try omega) only [sm,QJ,Qj,Qi,Qq,QC,bd,look,aput,Qm,QI,abin,anil,QG,Qr,aslice3,asl3,loN,hiN,ty,↓reduceIte,Nat.reduceEqDiff,Nat.reduceAdd,Nat.reduceSub,Nat.reduceMul,Int.reduceLT,Int.reduceLE,Int.reduceNeg,Int.reduceToNat,reduceCtorEq,Nat.reduceBEq,Nat.reduceBNe,Qk,Qe,Value.cells,am,mm,keep, aint, w1, w2, hil, hic, hle, hgt, h3, h4, h5, h6, Nat.sub_zero, e1, e2]
    refine AExt.mono (ov_ext ovR hq hg (fun e => hgq e.symm) (by decide) (by decide) (by omega)) ?_
    rintro _ G ⟨rfl, rfl⟩
    try simp -implicitDefEqProofs (disch := (try simp only [sl]); try omega) only [sm,QJ,Qj,Qi,Qq,QC,bd,look,aput,Qm,QI,abin,anil,QG,Qr,aslice3,asl3,loN,hiN,ty,↓reduceIte,Nat.reduceEqDiff,Nat.reduceAdd,Nat.reduceSub,Nat.reduceMul,Int.reduceLT,Int.reduceLE,Int.reduceNeg,Int.reduceToNat,reduceCtorEq,Nat.reduceBEq,Nat.reduceBNe,Qk,Qe,Value.cells,am,mm,keep, aint, w1, w2, hil, hic, hle, hgt, h3, h4, h5, h6, Nat.sub_zero, e1, e2, Bool.not_false]
    try (refine hK_ _ _ ?_; clear hK_ K_; repeat first | refine QL ?_ | refine QM ?_)
    repeat first | refine Qo ?_ | refine Qn ?_
    refine awp_if true rfl (by first | (simp only [aeval_tmp, look, ↓reduceIte, Nat.reduceEqDiff]; try rfl) | rfl) (fun _ => ?_) (fun h => absurd h (by decide))
    iterate 3 ((repeat first | refine Qo ?_ | refine Qn ?_); (first | ((first | refine awp_region_drawK (id := 15) [(0, []), (1, []), (2, []), (3, []), (4, []), (5, []), (6, []), (7, []), (8, [])] mixed (by kernel_rfl) ?_ | refine QK (by kernel_rfl) ?_); intro K_ hK_; simp -implicitDefEqProofs (disch := (try simp only [sl]); try omega) only [sm,QJ,aSel,Qu,Qv,Qw,Qx,Qy,Qj,Qi,Qq,QC,bd,look,aput,Qm,QI,abin,anil,Qr,aslice3,asl3,loN,hiN,ty,↓reduceIte,Nat.reduceEqDiff,Nat.reduceAdd,Nat.reduceSub,Nat.reduceMul,Int.reduceLT,Int.reduceLE,Int.reduceNeg,Int.reduceToNat,reduceCtorEq,Nat.reduceBEq,Nat.reduceBNe,Qk,Qe,Value.cells,am,mm,keep, aint, w1, w2, hil, hic, hle, hgt, h3, h4, h5, h6, Nat.sub_zero, e1, e2]; refine hK_ _ _ ?_; clear hK_ K_; repeat first | refine QL ?_ | refine QM ?_)))
    first | refine awp_ret ?_ | skip
    show ∃ v, aresults Try.prog Try.f40 _ _ = some v ∧ _
    rw [aresults_1 (r := .tmp 6) (by kernel_rfl)]
    simp -implicitDefEqProofs (disch := (try simp only [sl]); try omega) only [aresult, Option.some.injEq, exists_eq_left', sm,Qj,Qi,Qq,QC,Qz,bd,QF,look,aput,QB,Qf,QA,ty,↓reduceIte,Nat.reduceEqDiff,Nat.reduceAdd,Nat.reduceSub,Nat.reduceMul,Int.reduceLT,Int.reduceLE,Int.reduceNeg,Int.reduceToNat,reduceCtorEq,Nat.reduceBEq,Nat.reduceBNe,Qk,Qe,Value.cells,am,mm,keep, aint, w1, w2, hil, hic, hle, hgt, h3, h4, h5, h6, Nat.sub_zero, e1, e2]
    exact ⟨⟨g, some c, C2, rfl, gset _ _ _ (got_lt hg), hr, by omega, .inl rfl⟩, (But.refl g G).set _⟩
end Go.Proofs.Ytldfnfpinemedaa
