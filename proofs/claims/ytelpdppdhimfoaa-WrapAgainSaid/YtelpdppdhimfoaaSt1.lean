/- stretch: Join, chain, Block. -/
import Derived.Test.YtelpdppdhimfoaaMk2
namespace Go.Proofs.Ytelpdppdhimfoaa
open Go Go.RowKit
set_option linter.unusedSimpArgs false
set_option linter.unusedVariables false
set_option maxRecDepth 4000
/-- Two rows of 32 bytes joined. -/
def joinB (a b : List UInt8) : List UInt8 := (List.range 32).map fun j => a.getD j 0 ^^^ b.getD j 0
theorem joinB_length (a b : List UInt8) : (joinB a b).length = 32 := by rw [joinB, List.length_map, List.length_range]
set_option maxHeartbeats 4000000 in
theorem jn_calls (a b : List UInt8) (H : AH) (ha : a.length = 32) (hb : b.length = 32) :
    ACalls Try.prog 18 #[.agg (a.map U8).toArray, .agg (b.map U8).toArray] H fun v H' => v = .agg ((joinB a b).map U8).toArray ∧ Ext H H' := by
  have hE0 : Ext H (H ++ [ABlk.own (a.map U8)] ++ [ABlk.own (b.map U8)] ++ [ABlk.own ((zb 32).map U8)]) := (by repeat first | assumption | exact Ext.refl _ | exact Ext.pre (by assumption) | exact Ext.pre (Ext.pre (by assumption)) | exact Ext.pre (Ext.pre (Ext.pre (by assumption))) | exact Ext.pre (Ext.pre (Ext.pre (Ext.pre (by assumption)))) | apply Ext.pushed | refine Ext.both ?_ _ _ | refine Ext.set ?_ _ (by omega))
  have hM0 : (H ++ [ABlk.own (a.map U8)] ++ [ABlk.own (b.map U8)] ++ [ABlk.own ((zb 32).map U8)])[H.length]? = some (.own (a.map U8)) := (by simp -implicitDefEqProofs (disch := (try simp only [sl]); try omega) only [sm,Qj,Qi,Qq,QC,bd,look,aput,ty,↓reduceIte,Nat.reduceEqDiff,Nat.reduceAdd,Nat.reduceSub,Nat.reduceMul,Int.reduceLT,Int.reduceLE,Int.reduceNeg,Int.reduceToNat,reduceCtorEq,Nat.reduceBEq,Nat.reduceBNe,Qk,Qe,Value.cells,am,mm,keep])
  have hM1 : (H ++ [ABlk.own (a.map U8)] ++ [ABlk.own (b.map U8)] ++ [ABlk.own ((zb 32).map U8)])[H.length + 1]? = some (.own (b.map U8)) := (by simp -implicitDefEqProofs (disch := (try simp only [sl]); try omega) only [sm,Qj,Qi,Qq,QC,bd,look,aput,ty,↓reduceIte,Nat.reduceEqDiff,Nat.reduceAdd,Nat.reduceSub,Nat.reduceMul,Int.reduceLT,Int.reduceLE,Int.reduceNeg,Int.reduceToNat,reduceCtorEq,Nat.reduceBEq,Nat.reduceBNe,Qk,Qe,Value.cells,am,mm,keep])
  have hM2 : (H ++ [ABlk.own (a.map U8)] ++ [ABlk.own (b.map U8)] ++ [ABlk.own ((zb 32).map U8)])[H.length + 2]? = some (.own ((zb 32).map U8)) := (by simp -implicitDefEqProofs (disch := (try simp only [sl]); try omega) only [sm,Qj,Qi,Qq,QC,bd,look,aput,ty,↓reduceIte,Nat.reduceEqDiff,Nat.reduceAdd,Nat.reduceSub,Nat.reduceMul,Int.reduceLT,Int.reduceLE,Int.reduceNeg,Int.reduceToNat,reduceCtorEq,Nat.reduceBEq,Nat.reduceBNe,Qk,Qe,Value.cells,am,mm,keep])
  refine acalls_of_body Try.func18 rfl Try.ntmps18 (by simp) ?_
  simp only [argsT, Nat.reduceAdd]
  iterate 2 ((repeat first | refine Qo ?_ | refine Qn ?_); (first | refine Qp (by kernel_rfl) ?_); simp -implicitDefEqProofs (disch := (try simp only [sl]); try omega) only [sm,QJ,Qj,Qi,Qq,QC,bd,look,aput,QB,Qf,ty,↓reduceIte,Nat.reduceEqDiff,Nat.reduceAdd,Nat.reduceSub,Nat.reduceMul,Int.reduceLT,Int.reduceLE,Int.reduceNeg,Int.reduceToNat,reduceCtorEq,Nat.reduceBEq,Nat.reduceBNe,Qk,Qe,Value.cells,am,mm,keep, ha, hb, QO])
  generalize H ++ [ABlk.own (a.map U8)] ++ [ABlk.own (b.map U8)] ++ [ABlk.own ((zb 32).map U8)] = H0 at *
  repeat first | refine Qo ?_ | refine Qn ?_
  refine awp_forK [2, 3, 4] (fun i : Nat × AH => [(6, I64 i.1)]) (fun i : Nat × AH => i.2) (fun i : Nat × AH => i.1 ≤ 32 ∧ Ext H i.2 ∧ i.2[H.length]? = some (.own ((fillL (fun j => a.getD j 0 ^^^ b.getD j 0) a i.1).map U8)) ∧ i.2[H.length + 1]? = some (.own (b.map U8)) ∧ i.2[H.length + 2]? = some (.own ((zb 32).map U8))) (fun i : Nat × AH => 32 - i.1) ((0, H0)) (⟨by omega, hE0, hM0, hM1, hM2⟩) (by repeat first | exact Forgets.nil | refine Forgets.cons (by first | (simp only [look, ↓reduceIte, Nat.reduceEqDiff]; done) | (simp only [look, ↓reduceIte, Nat.reduceEqDiff]; rfl) | simp [look]) ?_) rfl ?_
  clear hE0 hM0 hM1 hM2
  rintro ⟨i, H1⟩ ⟨hi, x1, a1, b1, z1⟩
  simp only [] at hi x1 a1 b1 z1 ⊢
  have hfl := fillL_length (fun j => a.getD j 0 ^^^ b.getD j 0) a i
  have c1 := AH.cells_own a1
  have d1 := AH.cells_own b1
  have g1 := got_lt a1
  try simp -implicitDefEqProofs (disch := (try simp only [sl]); try omega) only [sm,QJ,Qj,Qi,Qq,QC,bd,look,aput,QB,Qf,ty,↓reduceIte,Nat.reduceEqDiff,Nat.reduceAdd,Nat.reduceSub,Nat.reduceMul,Int.reduceLT,Int.reduceLE,Int.reduceNeg,Int.reduceToNat,reduceCtorEq,Nat.reduceBEq,Nat.reduceBNe,Qk,Qe,Value.cells,am,mm,keep, ha, hb, QO]
  iterate 1 ((repeat first | refine Qo ?_ | refine Qn ?_); (first | refine Qp (by kernel_rfl) ?_); simp -implicitDefEqProofs (disch := (try simp only [sl]); try omega) only [sm,QJ,Qj,Qi,Qq,QC,bd,look,aput,QB,Qf,QI,abin,anil,ty,↓reduceIte,Nat.reduceEqDiff,Nat.reduceAdd,Nat.reduceSub,Nat.reduceMul,Int.reduceLT,Int.reduceLE,Int.reduceNeg,Int.reduceToNat,reduceCtorEq,Nat.reduceBEq,Nat.reduceBNe,Qk,Qe,Value.cells,am,mm,keep, ha, hb, QO])
  repeat first | refine Qo ?_ | refine Qn ?_
  refine awp_if _ rfl (by simp only [aeval_tmp, look, ↓reduceIte, Nat.reduceEqDiff]; exact rfl) ?_ ?_
  · intro hlt
    try simp only [ge_iff_le, gt_iff_lt, decide_eq_true_eq, decide_eq_false_iff_not, Nat.not_lt, Int.not_lt, Nat.not_le, Int.not_le, Bool.and_eq_true, Bool.or_eq_true, Bool.or_eq_false_iff, bne_iff_ne, ne_eq, beq_iff_eq, bne_eq_false_iff_eq, beq_eq_false_iff_ne, Bool.not_eq_true, Bool.not_eq_false, Bool.not_eq_eq_eq_not, Bool.not_true, Bool.not_false, Nat.not_le, Int.ofNat_lt, Int.ofNat_le, Int.natCast_inj] at hlt
    have hgd := fillL_getD (fun j => a.getD j 0 ^^^ b.getD j 0) a 0 i (by omega)
    iterate 4 ((repeat first | refine Qo ?_ | refine Qn ?_); (first | refine awp_skip ?_ | refine Qp (by kernel_rfl) ?_ | refine awp_region_drawC (id := 4) [(0, []), (1, []), (2, []), (3, []), (4, []), (5, []), (6, []), (7, []), (8, [])] mixed (by kernel_rfl) ?_); simp -implicitDefEqProofs (disch := (try simp only [sl]); try omega) only [sm,QJ,aSel,Qu,Qv,Qw,Qx,Qy,Qj,Qi,Qq,QC,Qz,bd,QF,look,aput,Qm,QB,Qf,QI,abin,anil,Qb,QA,ty,↓reduceIte,Nat.reduceEqDiff,Nat.reduceAdd,Nat.reduceSub,Nat.reduceMul,Int.reduceLT,Int.reduceLE,Int.reduceNeg,Int.reduceToNat,reduceCtorEq,Nat.reduceBEq,Nat.reduceBNe,Qk,Qe,Value.cells,am,mm,keep, ha, hb, QO, c1, d1, a1, hfl, hgd])
    rw [show (fillL (fun j => a.getD j 0 ^^^ b.getD j 0) a i).set i (a.getD i 0 ^^^ b.getD i 0) = fillL (fun j => a.getD j 0 ^^^ b.getD j 0) a (i + 1) from rfl]
    refine ⟨(i + 1, H1.set H.length (.own ((fillL (fun j => a.getD j 0 ^^^ b.getD j 0) a (i + 1)).map U8))), ⟨by simp only []; omega, Ext.set x1 _ (Nat.le_refl _), gset _ _ _ g1, (gsetn H1 H.length (H.length + 1) _ (by omega)).trans b1, (gsetn H1 H.length (H.length + 2) _ (by omega)).trans z1⟩, (by repeat first | exact Forgets.nil | refine Forgets.cons (by first | (simp only [look, ↓reduceIte, Nat.reduceEqDiff]; done) | (simp only [look, ↓reduceIte, Nat.reduceEqDiff]; rfl) | simp [look]) ?_), ?_⟩
    first | omega | exact ⟨rfl, by omega⟩ | exact ⟨rfl, by simp only []; omega⟩ | (simp only []; omega)
  intro hge
  try simp only [ge_iff_le, gt_iff_lt, decide_eq_true_eq, decide_eq_false_iff_not, Nat.not_lt, Int.not_lt, Nat.not_le, Int.not_le, Bool.and_eq_true, Bool.or_eq_true, Bool.or_eq_false_iff, bne_iff_ne, ne_eq, beq_iff_eq, bne_eq_false_iff_eq, beq_eq_false_iff_ne, Bool.not_eq_true, Bool.not_eq_false, Bool.not_eq_eq_eq_not, Bool.not_true, Bool.not_false, Nat.not_le, Int.ofNat_lt, Int.ofNat_le, Int.natCast_inj] at hge
  obtain rfl : i = 32 := by omega
  rw [fillL_all _ _ 32 ha] at a1 c1 hfl
  have hj : (List.range 32).map (fun j => a.getD j 0 ^^^ b.getD j 0) = joinB a b := rfl
  rw [hj] at a1 c1 hfl
  have hjl := joinB_length a b
  have g2 := got_lt z1
  have hov : ovr ((zb 32).map U8) 0 ((joinB a b).map U8) = (joinB a b).map U8 := ovr_all _ _ (by rw [List.length_map, List.length_map, hjl, zb_length])
  iterate 2 ((repeat first | refine Qo ?_ | refine Qn ?_); (first | refine awp_exit ?_ | refine Qp (by kernel_rfl) ?_); simp -implicitDefEqProofs (disch := (try simp only [sl]); try omega) only [sm,QJ,Qj,Qi,Qq,QC,Qz,bd,QF,look,aput,Qm,QB,Qf,QA,ty,↓reduceIte,Nat.reduceEqDiff,Nat.reduceAdd,Nat.reduceSub,Nat.reduceMul,Int.reduceLT,Int.reduceLE,Int.reduceNeg,Int.reduceToNat,reduceCtorEq,Nat.reduceBEq,Nat.reduceBNe,Qk,Qe,Value.cells,am,mm,keep, ha, hb, QO, c1, hjl, z1, zb_length, g2, hov])
  first | refine awp_ret ?_ | skip
  show ∃ v, aresults Try.prog Try.f18 _ _ = some v ∧ _
  rw [aresults_1 (r := .cell 4 35) (by kernel_rfl)]
  simp -implicitDefEqProofs (disch := (try simp only [sl]); try omega) only [aresult, Option.some.injEq, exists_eq_left', sm,Qj,Qi,Qq,QC,Qz,bd,QF,look,aput,QB,Qf,QA,ty,↓reduceIte,Nat.reduceEqDiff,Nat.reduceAdd,Nat.reduceSub,Nat.reduceMul,Int.reduceLT,Int.reduceLE,Int.reduceNeg,Int.reduceToNat,reduceCtorEq,Nat.reduceBEq,Nat.reduceBNe,Qk,Qe,Value.cells,am,mm,keep, ha, hb, QO]
  exact Ext.set (g := H.length + 2) x1 _ (by omega)
/-- All blocks but one stay. -/
def But (g : Nat) (H H' : AH) : Prop := ∀ p x, p ≠ g → H[p]? = some x → H'[p]? = some x
theorem But.refl (g : Nat) (H : AH) : But g H H := fun _ _ _ h => h
theorem But.trans {g : Nat} {H H1 H2 : AH} (h : But g H H1) (k : But g H1 H2) : But g H H2 := fun p x hp hx => k p x hp (h p x hp hx)
theorem But.of_ext {g : Nat} {H H1 : AH} (h : Ext H H1) : But g H H1 := fun p x _ hx => h p x hx
theorem But.set {g : Nat} {H H1 : AH} (h : But g H H1) (b : ABlk) : But g H (H1.set g b) := fun p x hp hx => (gsetn H1 g p b (fun e => hp e.symm)).trans (h p x hp hx)
theorem But.ext {g : Nat} {E H H1 : AH} (h : But g H H1) (e : Ext E H) (hg : E.length ≤ g) : Ext E H1 := fun p x hx => h p x (by have := (List.getElem?_eq_some_iff.1 hx).1; omega) (e p x hx)
theorem But.setnew {g q : Nat} {H H1 : AH} (h : But g H H1) (hq : H.length ≤ q) (b : ABlk) : But g H (H1.set q b) := fun p x hp hx => (gsetn H1 q p b (by have := (List.getElem?_eq_some_iff.1 hx).1; omega)).trans (h p x hp hx)
set_option maxHeartbeats 4000000 in
theorem each_calls (acc u : List UInt8) (g : Nat) (H : AH) (hg : H[g]? = some (.own (acc.map U8))) (ha : acc.length = 32) (hu : u.length = 32) :
    ACalls Try.prog 34 #[.agg (u.map U8).toArray, .pointer (some ⟨g, 0, none⟩)] H fun _ H' => H'[g]? = some (.own ((joinB acc u).map U8)) ∧ But g H H' := by
  refine acalls_of_body Try.func34 rfl Try.ntmps34 (by simp) ?_
  simp only [argsT, Nat.reduceAdd]
  have g0 := got_lt hg
  have h1 : (H ++ [ABlk.own (u.map U8)])[g]? = some (.own (acc.map U8)) := Ext.push _ _ _ _ hg
  have c1 := AH.cells_own h1
  iterate 2 ((repeat first | refine Qo ?_ | refine Qn ?_); (first | refine Qp (by kernel_rfl) ?_); simp -implicitDefEqProofs (disch := (try simp only [sl]); try omega) only [sm,QJ,Qj,Qi,Qq,QC,Qz,bd,QF,look,aput,Qm,QB,Qf,QA,ty,↓reduceIte,Nat.reduceEqDiff,Nat.reduceAdd,Nat.reduceSub,Nat.reduceMul,Int.reduceLT,Int.reduceLE,Int.reduceNeg,Int.reduceToNat,reduceCtorEq,Nat.reduceBEq,Nat.reduceBNe,Qk,Qe,Value.cells,am,mm,keep, hu, ha, c1])
  refine ACalls.mono (jn_calls acc u _ ha hu) ?_
  rintro _ H2 ⟨rfl, e2⟩
  have h2 := e2 _ _ h1
  have g2 := got_lt h2
  have hjl := joinB_length acc u
  try simp -implicitDefEqProofs (disch := (try simp only [sl]); try omega) only [sm,QJ,Qj,Qi,Qq,QC,Qz,bd,QF,look,aput,Qm,QB,Qf,QA,ty,↓reduceIte,Nat.reduceEqDiff,Nat.reduceAdd,Nat.reduceSub,Nat.reduceMul,Int.reduceLT,Int.reduceLE,Int.reduceNeg,Int.reduceToNat,reduceCtorEq,Nat.reduceBEq,Nat.reduceBNe,Qk,Qe,Value.cells,am,mm,keep, h2, hjl, ha]
  first | refine awp_ret ?_ | skip
  show ∃ v, aresults Try.prog Try.f34 _ _ = some v ∧ _
  rw [aresults_0  (by kernel_rfl)]
  simp -implicitDefEqProofs (disch := (try simp only [sl]); try omega) only [aresult, Option.some.injEq, exists_eq_left', sm,Qj,Qi,Qq,QC,Qz,bd,QF,look,aput,QB,Qf,QA,ty,↓reduceIte,Nat.reduceEqDiff,Nat.reduceAdd,Nat.reduceSub,Nat.reduceMul,Int.reduceLT,Int.reduceLE,Int.reduceNeg,Int.reduceToNat,reduceCtorEq,Nat.reduceBEq,Nat.reduceBNe,Qk,Qe,Value.cells,am,mm,keep]
  exact (But.of_ext (Ext.pre e2)).set _
/-- The chain of macs. -/
def uN (k u : List UInt8) : Nat → List UInt8
  | 0 => u
  | n + 1 => macB k (uN k u n)
theorem uN_length (k u : List UInt8) (h : u.length = 32) : ∀ n, (uN k u n).length = 32
  | 0 => h
  | _ + 1 => macB_length _ _
def accN (k u acc : List UInt8) : Nat → List UInt8
  | 0 => acc
  | n + 1 => joinB (accN k u acc n) (uN k u n)
theorem accN_length (k u acc : List UInt8) (h : acc.length = 32) : ∀ n, (accN k u acc n).length = 32
  | 0 => h
  | _ + 1 => joinB_length _ _
set_option maxHeartbeats 4000000 in
theorem chain_calls (pv : Value) (k u acc : List UInt8) (n g : Nat) (H0 H : AH) (hk : SL H0 pv (k.map U8)) (hkl : k.length ≤ 1099511627000) (hu : u.length = 32) (e0 : Ext H0 H) (hg0 : H0.length ≤ g) (hg : H[g]? = some (.own (acc.map U8))) (ha : acc.length = 32) (hn : n ≤ 10000) :
    ACalls Try.prog 32 #[pv, .agg (u.map U8).toArray, .int .i64 (n : Int), .func (.func 34) #[] #[.pointer (some ⟨g, 0, none⟩)]] H fun _ H' => H'[g]? = some (.own ((accN k u acc n).map U8)) ∧ But g H H' := by
  have g0 := got_lt hg
  refine acalls_of_body Try.func32 rfl Try.ntmps32 (by simp) ?_
  simp only [argsT, Nat.reduceAdd]
  iterate 2 ((repeat first | refine Qo ?_ | refine Qn ?_); (first | refine Qp (by kernel_rfl) ?_); simp -implicitDefEqProofs (disch := (try simp only [sl]); try omega) only [sm,QJ,Qj,Qi,Qq,QC,bd,look,aput,QB,Qf,ty,↓reduceIte,Nat.reduceEqDiff,Nat.reduceAdd,Nat.reduceSub,Nat.reduceMul,Int.reduceLT,Int.reduceLE,Int.reduceNeg,Int.reduceToNat,reduceCtorEq,Nat.reduceBEq,Nat.reduceBNe,Qk,Qe,Value.cells,am,mm,keep, hu])
  repeat first | refine Qo ?_ | refine Qn ?_
  refine awp_forK [0, 3, 5, 8] (fun i : Nat × AH => [(9, I64 i.1)]) (fun i : Nat × AH => i.2) (fun i : Nat × AH => i.1 ≤ n ∧ But g H i.2 ∧ i.2[g]? = some (.own ((accN k u acc i.1).map U8)) ∧ i.2[H.length]? = some (.own ((uN k u i.1).map U8))) (fun i : Nat × AH => n - i.1) ((0, H ++ [.own (u.map U8)])) (⟨by omega, But.of_ext (Ext.push _ _), Ext.push _ _ _ _ hg, gpush _ _⟩) (by repeat first | exact Forgets.nil | refine Forgets.cons (by first | (simp only [look, ↓reduceIte, Nat.reduceEqDiff]; done) | (simp only [look, ↓reduceIte, Nat.reduceEqDiff]; rfl) | simp [look]) ?_) rfl ?_
  rintro ⟨i, H1⟩ ⟨hi, b1, a1, u1⟩
  simp only [] at hi b1 a1 u1 ⊢
  have hul := uN_length k u hu i
  have hal := accN_length k u acc ha i
  have c1 := AH.cells_own u1
  try simp -implicitDefEqProofs (disch := (try simp only [sl]); try omega) only [sm,QJ,Qj,Qi,Qq,QC,bd,look,aput,QB,Qf,ty,↓reduceIte,Nat.reduceEqDiff,Nat.reduceAdd,Nat.reduceSub,Nat.reduceMul,Int.reduceLT,Int.reduceLE,Int.reduceNeg,Int.reduceToNat,reduceCtorEq,Nat.reduceBEq,Nat.reduceBNe,Qk,Qe,Value.cells,am,mm,keep]
  iterate 1 ((repeat first | refine Qo ?_ | refine Qn ?_); (first | refine Qp (by kernel_rfl) ?_); simp -implicitDefEqProofs (disch := (try simp only [sl]); try omega) only [sm,QJ,Qj,Qi,Qq,QC,bd,look,aput,QB,Qf,QI,abin,anil,ty,↓reduceIte,Nat.reduceEqDiff,Nat.reduceAdd,Nat.reduceSub,Nat.reduceMul,Int.reduceLT,Int.reduceLE,Int.reduceNeg,Int.reduceToNat,reduceCtorEq,Nat.reduceBEq,Nat.reduceBNe,Qk,Qe,Value.cells,am,mm,keep])
  repeat first | refine Qo ?_ | refine Qn ?_
  refine awp_if _ rfl (by simp only [aeval_tmp, look, ↓reduceIte, Nat.reduceEqDiff]; exact rfl) ?_ ?_
  · intro hlt
    try simp only [ge_iff_le, gt_iff_lt, decide_eq_true_eq, decide_eq_false_iff_not, Nat.not_lt, Int.not_lt, Nat.not_le, Int.not_le, Bool.and_eq_true, Bool.or_eq_true, Bool.or_eq_false_iff, bne_iff_ne, ne_eq, beq_iff_eq, bne_eq_false_iff_eq, beq_eq_false_iff_ne, Bool.not_eq_true, Bool.not_eq_false, Bool.not_eq_eq_eq_not, Bool.not_true, Bool.not_false, Nat.not_le, Int.ofNat_lt, Int.ofNat_le, Int.natCast_inj] at hlt
    iterate 2 ((repeat first | refine Qo ?_ | refine Qn ?_); (first | refine awp_skip ?_ | refine Qp (by kernel_rfl) ?_); simp -implicitDefEqProofs (disch := (try simp only [sl]); try omega) only [sm,QJ,Qj,Qi,Qq,QC,Qz,bd,QF,look,aput,Qm,QB,Qf,QA,ty,↓reduceIte,Nat.reduceEqDiff,Nat.reduceAdd,Nat.reduceSub,Nat.reduceMul,Int.reduceLT,Int.reduceLE,Int.reduceNeg,Int.reduceToNat,reduceCtorEq,Nat.reduceBEq,Nat.reduceBNe,Qk,Qe,Value.cells,am,mm,keep, c1, hul])
    refine ACalls.mono (each_calls _ _ g H1 a1 hal hul) ?_
    rintro _ H2 ⟨a2, b2⟩
    have u2 := b2 _ _ (by omega) u1
    have b12 := b1.trans b2
    have t2 : SL H2 (.slice (some ⟨H.length, 0, none⟩) 32 0) ((uN k u i).map U8) := SL.own 32 (by rw [List.length_map, hul]) u2
    try simp -implicitDefEqProofs (disch := (try simp only [sl]); try omega) only [sm,QJ,Qj,Qi,Qq,QC,Qz,bd,QF,look,aput,Qm,QB,Qf,QA,ty,↓reduceIte,Nat.reduceEqDiff,Nat.reduceAdd,Nat.reduceSub,Nat.reduceMul,Int.reduceLT,Int.reduceLE,Int.reduceNeg,Int.reduceToNat,reduceCtorEq,Nat.reduceBEq,Nat.reduceBNe,Qk,Qe,Value.cells,am,mm,keep]
    iterate 1 ((repeat first | refine Qo ?_ | refine Qn ?_); (first | refine Qp (by kernel_rfl) ?_); simp -implicitDefEqProofs (disch := (try simp only [sl]); try omega) only [sm,QJ,Qj,Qi,Qq,QC,bd,look,aput,Qm,QB,Qf,Qr,loN,hiN,ty,↓reduceIte,Nat.reduceEqDiff,Nat.reduceAdd,Nat.reduceSub,Nat.reduceMul,Int.reduceLT,Int.reduceLE,Int.reduceNeg,Int.reduceToNat,reduceCtorEq,Nat.reduceBEq,Nat.reduceBNe,Qk,Qe,Value.cells,am,mm,keep])
    refine ACalls.mono (macsum_calls pv _ k _ _ ((hk.mono (b12.ext e0 hg0)).mono (Ext.push _ _)) hkl (one_part t2) (by show 1 ≤ _; decide) (by rw [allB_one]; omega)) ?_
    rintro _ H3 ⟨rfl, e3⟩
    rw [allB_one]
    have x3 := (Ext.push H2 [ABlk.own [.slice (some ⟨H.length, 0, none⟩) 32 0]]).trans e3
    have a3 := x3 _ _ a2
    have u3 := x3 _ _ u2
    have g3 := got_lt u3
    have hml := macB_length k (uN k u i)
    try simp -implicitDefEqProofs (disch := (try simp only [sl]); try omega) only [sm,QJ,Qj,Qi,Qq,QC,bd,look,aput,Qm,QB,Qf,Qr,loN,hiN,ty,↓reduceIte,Nat.reduceEqDiff,Nat.reduceAdd,Nat.reduceSub,Nat.reduceMul,Int.reduceLT,Int.reduceLE,Int.reduceNeg,Int.reduceToNat,reduceCtorEq,Nat.reduceBEq,Nat.reduceBNe,Qk,Qe,Value.cells,am,mm,keep, u3, hml, hul]
    iterate 1 ((repeat first | refine Qo ?_ | refine Qn ?_); (first | refine Qp (by kernel_rfl) ?_); simp -implicitDefEqProofs (disch := (try simp only [sl]); try omega) only [sm,QJ,Qj,Qi,Qq,QC,bd,look,aput,QB,Qf,QI,abin,anil,ty,↓reduceIte,Nat.reduceEqDiff,Nat.reduceAdd,Nat.reduceSub,Nat.reduceMul,Int.reduceLT,Int.reduceLE,Int.reduceNeg,Int.reduceToNat,reduceCtorEq,Nat.reduceBEq,Nat.reduceBNe,Qk,Qe,Value.cells,am,mm,keep])
    refine ⟨(i + 1, H3.set H.length (.own ((macB k (uN k u i)).map U8))), ⟨by simp only []; omega, (b12.trans (But.of_ext x3)).setnew (Nat.le_refl _) _, (gsetn H3 H.length g _ (by omega)).trans a3, gset _ _ _ g3⟩, (by repeat first | exact Forgets.nil | refine Forgets.cons (by first | (simp only [look, ↓reduceIte, Nat.reduceEqDiff]; done) | (simp only [look, ↓reduceIte, Nat.reduceEqDiff]; rfl) | simp [look]) ?_), ?_⟩
    first | omega | exact ⟨rfl, by omega⟩ | exact ⟨rfl, by simp only []; omega⟩ | (simp only []; omega)
  intro hge
  try simp only [ge_iff_le, gt_iff_lt, decide_eq_true_eq, decide_eq_false_iff_not, Nat.not_lt, Int.not_lt, Nat.not_le, Int.not_le, Bool.and_eq_true, Bool.or_eq_true, Bool.or_eq_false_iff, bne_iff_ne, ne_eq, beq_iff_eq, bne_eq_false_iff_eq, beq_eq_false_iff_ne, Bool.not_eq_true, Bool.not_eq_false, Bool.not_eq_eq_eq_not, Bool.not_true, Bool.not_false, Nat.not_le, Int.ofNat_lt, Int.ofNat_le, Int.natCast_inj] at hge
  obtain rfl : i = n := by omega
  iterate 1 ((repeat first | refine Qo ?_ | refine Qn ?_); (first | refine awp_exit ?_); simp -implicitDefEqProofs (disch := (try simp only [sl]); try omega) only [sm,QJ,Qj,Qi,Qq,QC,bd,look,aput,QB,Qf,QI,abin,anil,ty,↓reduceIte,Nat.reduceEqDiff,Nat.reduceAdd,Nat.reduceSub,Nat.reduceMul,Int.reduceLT,Int.reduceLE,Int.reduceNeg,Int.reduceToNat,reduceCtorEq,Nat.reduceBEq,Nat.reduceBNe,Qk,Qe,Value.cells,am,mm,keep])
  first | refine awp_ret ?_ | skip
  show ∃ v, aresults Try.prog Try.f32 _ _ = some v ∧ _
  rw [aresults_0  (by kernel_rfl)]
  simp -implicitDefEqProofs (disch := (try simp only [sl]); try omega) only [aresult, Option.some.injEq, exists_eq_left', sm,Qj,Qi,Qq,QC,Qz,bd,QF,look,aput,QB,Qf,QA,ty,↓reduceIte,Nat.reduceEqDiff,Nat.reduceAdd,Nat.reduceSub,Nat.reduceMul,Int.reduceLT,Int.reduceLE,Int.reduceNeg,Int.reduceToNat,reduceCtorEq,Nat.reduceBEq,Nat.reduceBNe,Qk,Qe,Value.cells,am,mm,keep]
  exact ⟨a1, b1⟩
end Go.Proofs.Ytelpdppdhimfoaa
