/- What the document says of seal's Parse. -/
import Derived.Test.YtfhbieimffjjkaaDoorSlr
namespace Go.Proofs.YtfhbieimffjjkaaDoor
open Go Go.RowKit
--hide
set_option linter.unusedSimpArgs false
set_option linter.unusedVariables false
set_option maxRecDepth 4000
theorem fillL_self {α : Type} (b z : List α) (d : α) (n : Nat) (hb : b.length = n) (hz : z.length = n) : fillL (fun j => b.getD j d) z n = b := by
  rw [fillL_all _ _ n hz]
  apply List.ext_getElem (by rw [List.length_map, List.length_range, hb])
  intro i h1 h2
  rw [List.getElem_map, List.getElem_range, List.getD_eq_getElem?_getD, List.getElem?_eq_getElem h2]
  rfl
theorem rc_seti {d : List UInt8} {i : Nat} (p : Int) (e : UInt32) (x : UInt8) : (rc p e d).set (2 + i) (.int .u8 (x.toNat : Int)) = rc p e (d.set i x) := by
  show ([Value.int .i64 p] ++ ([U32 e] ++ d.map U8)).set (2 + i) _ = _
  rw [show 2 + i = i + 1 + 1 by omega]
  show _ :: _ :: (d.map U8).set i _ = _
  rw [ms8]; rfl
theorem But.cells {g q : Nat} {H H' : AH} {cs : List Value} (h : But g H H') (hq : q ≠ g) (hc : H.cells q = some cs) : H'.cells q = some cs := by
  rcases AH.cells_cases hc with k | k
  · exact AH.cells_own (h _ _ hq k)
  · exact AH.cells_ro (h _ _ hq k)
theorem take_snoc (l : List UInt8) (i : Nat) (h : i < l.length) : l.take i ++ [l.getD i 0] = l.take (i + 1) := by
  rw [List.take_add_one, List.getD_eq_getElem?_getD, List.getElem?_eq_getElem h]; rfl
set_option maxHeartbeats 8000000 in
theorem refparse_calls (v : Value) (b : List UInt8) (H : AH) (hv : SL H v (b.map U8)) :
    ACalls Tryd.prog 81 #[v] H fun w H' => w = .tuple #[.agg (rc (pzP b) (pzQ b) (pzD b)).toArray, .int .i64 (pzE b)] ∧ Ext H H' := by
  have lv := alen_sl (P := Tryd.prog) (T := 22) (by simp only [ty]) hv
  rw [List.length_map] at lv
  have hz32 := zb_length 32
  have hrz := rc_length hz32 0 0
  have hra := rc_cellv
  have fo_ : True := trivial
  have N_ := Now.start H
  have f_ := N_.has
  simp only [Has] at f_
  refine acalls_of_body Tryd.func81 rfl Tryd.ntmps81 (by simp) ?_
  simp only [argsT, Nat.reduceAdd]
  iterate 1 ((repeat first | refine Qo ?_ | refine Qn ?_); (first | (refine QK (by kernel_rfl) ?_; intro K_ hK_; simp -implicitDefEqProofs (disch := (try simp only [sl]); try omega) only [sm,QJ,Qj,Qi,Qq,QC,bd,look,aput,ty,↓reduceIte,Nat.reduceEqDiff,Nat.reduceAdd,Nat.reduceSub,Nat.reduceMul,Int.reduceLT,Int.reduceLE,Int.reduceNeg,Int.reduceToNat,reduceCtorEq,Nat.reduceBEq,Nat.reduceBNe,Qk,Qe,Value.cells,am,mm,keep, f_, fo_, lv, zRr, hrz, hra]; refine hK_ _ _ ?_; clear hK_ K_; repeat first | refine QL ?_ | refine QM ?_)))
  first | refine AWp.snap8 N_ ?_ | refine AWp.snap7 N_ ?_ | refine AWp.snap6 N_ ?_ | refine AWp.snap5 N_ ?_ | refine AWp.snap4 N_ ?_ | refine AWp.snap3 N_ ?_ | refine AWp.snap2 N_ ?_ | refine AWp.snap1 N_ ?_
  clear fo_; have fo_ := f_; clear f_ N_; intro H1 xH1 lH1 N_
  have f_ := N_.has
  simp only [Has] at f_
  have hq1 := f_.1.2.1
  by_cases hl : b.length = 37
  · have hb : ((b.length : Int) != 37) = false := by rw [hl]; rfl
    obtain ⟨gv, ov, ev, cv, rfl, hcv, hgv, hlv, hkv, hkv0⟩ := hv.bytes (by omega)
    have hcv1 := xH1.cells hcv
    by_cases hok : okP b
    · have hP : ((b.getD 0 0).toNat : Int) = pzP b := by rw [pzP, if_pos hok]
      have hn : ¬ (1 : Int) < ((b.getD 0 0).toNat : Int) := by have := hok.2; omega
      have hn2 : ¬ (1 : Nat) < (b.getD 0 0).toNat := by have := hok.2; omega
      have hbd : ∀ (p : Int) (e : UInt32), Value.int .i64 p :: Value.int .u32 (e.toNat : Int) :: List.replicate 32 (Value.int .u8 0) = rc p e (zb 32) := fun _ _ => rfl
      simp only [List.replicate] at hbd
      have hbd := fun p => hbd p 0
      simp only [show ((UInt32.toNat 0 : Nat) : Int) = 0 from rfl] at hbd
      have hov := rc_ovr hz32 hz32 0 (pzP b) 0 0
      have hwP : IntKind.i64.wrap (pzP b) = pzP b := by rw [← hP, wi64 _ (by omega) (by omega)]
      have he0 : eN ((b.drop 1).take 0) = 0 := rfl
      have hrl := rc_length hz32 (pzP b) 0
      iterate 1 ((repeat first | refine Qo ?_ | refine Qn ?_); (first | (refine QK (by kernel_rfl) ?_; intro K_ hK_; simp -implicitDefEqProofs (disch := (try simp only [sl]); try omega) only [sm,QJ,Qj,Qi,Qq,QC,Qz,bd,QF,look,aput,QI,abin,anil,Qb,QA,ty,↓reduceIte,Nat.reduceEqDiff,Nat.reduceAdd,Nat.reduceSub,Nat.reduceMul,Int.reduceLT,Int.reduceLE,Int.reduceNeg,Int.reduceToNat,reduceCtorEq,Nat.reduceBEq,Nat.reduceBNe,Qk,Qe,Value.cells,am,mm,keep, f_, fo_, aint, lv, zRr, hrz, hra, hcv1, hkv0, hl, hb, hn, hn2]; refine hK_ _ _ ?_; clear hK_ K_; repeat first | refine QL ?_ | refine QM ?_)))
      repeat first | refine Qo ?_ | refine Qn ?_
      refine awp_if false rfl (by simp only [aeval_tmp, look, ↓reduceIte, Nat.reduceEqDiff]; try rfl) (fun h => absurd h (by decide)) (fun _ => ?_)
      iterate 2 ((repeat first | refine Qo ?_ | refine Qn ?_); (first | (refine QK (by kernel_rfl) ?_; intro K_ hK_; simp -implicitDefEqProofs (disch := (try simp only [sl]); try omega) only [sm,QJ,Qj,Qi,Qq,QC,Qz,bd,QF,look,aput,Qm,QH,Qg,Qb,QA,ty,↓reduceIte,Nat.reduceEqDiff,Nat.reduceAdd,Nat.reduceSub,Nat.reduceMul,Int.reduceLT,Int.reduceLE,Int.reduceNeg,Int.reduceToNat,reduceCtorEq,Nat.reduceBEq,Nat.reduceBNe,Qk,Qe,Value.cells,am,mm,keep, f_, fo_, zRr, hrz, hra, hcv1, hkv0, hP, hwP, bd, hbd, hov, hrl, hl]; refine hK_ _ _ ?_; clear hK_ K_; repeat first | refine QL ?_ | refine QM ?_) | (refine awp_skip ?_; repeat first | refine QL ?_ | refine QM ?_)))
      first | refine AWp.snap8 N_ ?_ | refine AWp.snap7 N_ ?_ | refine AWp.snap6 N_ ?_ | refine AWp.snap5 N_ ?_ | refine AWp.snap4 N_ ?_ | refine AWp.snap3 N_ ?_ | refine AWp.snap2 N_ ?_ | refine AWp.snap1 N_ ?_
      clear fo_; have fo_ := f_; clear f_ N_; intro H2 xH2 lH2 N_
      have f_ := N_.has
      simp only [Has] at f_
      have hdl1 : (b.drop 1).length = 36 := by rw [List.length_drop, hl]
      have hdl5 : (b.drop 5).length = 32 := by rw [List.length_drop, hl]
      have hset : ∀ (p : Int) (e e' : UInt32) (d : List UInt8), (rc p e d).set 1 (.int .u32 (e'.toNat : Int)) = rc p e' d := fun _ _ _ _ => rfl
      have hcv2 := xH2.cells hcv1
      iterate 1 ((repeat first | refine Qo ?_ | refine Qn ?_); (first | (refine QK (by kernel_rfl) ?_; intro K_ hK_; simp -implicitDefEqProofs (disch := (try simp only [sl]); try omega) only [sm,QJ,Qj,Qi,Qq,QC,bd,look,aput,ty,↓reduceIte,Nat.reduceEqDiff,Nat.reduceAdd,Nat.reduceSub,Nat.reduceMul,Int.reduceLT,Int.reduceLE,Int.reduceNeg,Int.reduceToNat,reduceCtorEq,Nat.reduceBEq,Nat.reduceBNe,Qk,Qe,Value.cells,am,mm,keep, f_, fo_, zRr, hrz, hra, hcv1, hkv0, hP, hwP, bd, hbd, hov, hrl, hl]; refine hK_ _ _ ?_; clear hK_ K_; repeat first | refine QL ?_ | refine QM ?_)))
      repeat first | refine Qo ?_ | refine Qn ?_
      refine awp_forK [0, 2, 4] (fun x : Nat × AH => [(5, I64 x.1)]) (fun x : Nat × AH => x.2) (fun x : Nat × AH => x.1 ≤ 4 ∧ x.2[H1.length]? = some (.own (rc (pzP b) (eN ((b.drop 1).take x.1)) (zb 32))) ∧ But H1.length H2 x.2 ∧ x.2.length = H2.length) (fun x : Nat × AH => 4 - x.1) ((0, H2)) (⟨by simp only []; omega, by simp only []; rw [he0]; exact f_.1.2.1, But.refl _ _, rfl⟩) (by repeat first | exact Forgets.nil | refine Forgets.cons (by first | (simp only [look, ↓reduceIte, Nat.reduceEqDiff]; done) | (simp only [look, ↓reduceIte, Nat.reduceEqDiff]; rfl) | simp [look]) ?_) rfl ?_
      rintro ⟨i, H3⟩ ⟨hi, q3, b3, l3⟩
      simp only [] at hi q3 b3 l3 ⊢
      have c3 := AH.cells_own q3
      have g3 := got_lt q3
      have hcv3 : H3.cells gv = some cv := b3.cells (by omega) hcv2
      have hlt : ((b.drop 1).take i).length = i := by rw [List.length_take, hdl1]; omega
      have hrl3 := rc_length hz32 (pzP b) (eN ((b.drop 1).take i))
      have hre3 : (rc (pzP b) (eN ((b.drop 1).take i)) (zb 32))[1]? = some (.int .u32 ((eN ((b.drop 1).take i)).toNat : Int)) := rfl
      by_cases hi4 : i < 4
      · have hk1 := hkv (1 + i) (by omega)
        have hs := eN_snoc ((b.drop 1).take i) (b.getD (1 + i) 0) (by omega)
        rw [hlt] at hs
        have hsn := take_snoc (b.drop 1) i (by omega)
        rw [show (b.drop 1).getD i 0 = b.getD (1 + i) 0 by simp [List.getD_eq_getElem?_getD, Nat.add_comm]] at hsn
        rw [hsn] at hs
        clear f_ N_ fo_
        iterate 1 ((repeat first | refine Qo ?_ | refine Qn ?_); (first | (refine QK (by kernel_rfl) ?_; intro K_ hK_; simp -implicitDefEqProofs (disch := (try simp only [sl]); try omega) only [sm,QJ,Qj,Qi,Qq,QC,bd,look,aput,QI,abin,anil,ty,↓reduceIte,Nat.reduceEqDiff,Nat.reduceAdd,Nat.reduceSub,Nat.reduceMul,Int.reduceLT,Int.reduceLE,Int.reduceNeg,Int.reduceToNat,reduceCtorEq,Nat.reduceBEq,Nat.reduceBNe,Qk,Qe,Value.cells,am,mm,keep, zRr, q3, c3, g3, hcv3, hrl3, hre3, hk1, hl, hset, hs, hi4]; refine hK_ _ _ ?_; clear hK_ K_; repeat first | refine QL ?_ | refine QM ?_)))
        repeat first | refine Qo ?_ | refine Qn ?_
        refine awp_if true rfl (by simp only [aeval_tmp, look, ↓reduceIte, Nat.reduceEqDiff]; try rfl) (fun _ => ?_) (fun h => absurd h (by decide))
        iterate 3 ((repeat first | refine Qo ?_ | refine Qn ?_); (first | ((first | refine awp_region_drawK (id := 7) [(0, []), (1, []), (2, []), (3, []), (4, []), (5, []), (6, []), (7, []), (8, []), (9, []), (10, []), (11, []), (12, []), (13, [])] mixed (by kernel_rfl) ?_ | refine QK (by kernel_rfl) ?_); intro K_ hK_; simp -implicitDefEqProofs (disch := (try simp only [sl]); try omega) only [sm,QJ,aSel,Qu,Qv,Qw,Qx,Qy,Qj,Qi,Qq,QC,Qz,bd,QF,look,aput,Qm,QH,Qg,QI,abin,anil,Qb,Qc,QA,ty,↓reduceIte,Nat.reduceEqDiff,Nat.reduceAdd,Nat.reduceSub,Nat.reduceMul,Int.reduceLT,Int.reduceLE,Int.reduceNeg,Int.reduceToNat,reduceCtorEq,Nat.reduceBEq,Nat.reduceBNe,Qk,Qe,Value.cells,am,mm,keep, zRr, q3, c3, g3, hcv3, hrl3, hre3, hk1, hl, hset, hs, hi4]; refine hK_ _ _ ?_; clear hK_ K_; repeat first | refine QL ?_ | refine QM ?_) | (refine awp_skip ?_; repeat first | refine QL ?_ | refine QM ?_)))
        refine ⟨(i + 1, H3.set H1.length (.own (rc (pzP b) (eN ((b.drop 1).take (i + 1))) (zb 32)))), ⟨by simp only []; omega, gset _ _ _ g3, b3.set _, by simp only []; rw [List.length_set]; exact l3⟩, (by repeat first | exact Forgets.nil | refine Forgets.cons (by first | (simp only [look, ↓reduceIte, Nat.reduceEqDiff]; done) | (simp only [look, ↓reduceIte, Nat.reduceEqDiff]; rfl) | simp [look]) ?_), ?_⟩
        first | omega | exact ⟨rfl, by omega⟩ | exact ⟨rfl, by simp only []; omega⟩ | (simp only []; omega)
      obtain rfl : i = 4 := by omega
      clear f_ N_ fo_
      iterate 1 ((repeat first | refine Qo ?_ | refine Qn ?_); (first | (refine QK (by kernel_rfl) ?_; intro K_ hK_; simp -implicitDefEqProofs (disch := (try simp only [sl]); try omega) only [sm,QJ,Qj,Qi,Qq,QC,bd,look,aput,QI,abin,anil,ty,↓reduceIte,Nat.reduceEqDiff,Nat.reduceAdd,Nat.reduceSub,Nat.reduceMul,Int.reduceLT,Int.reduceLE,Int.reduceNeg,Int.reduceToNat,reduceCtorEq,Nat.reduceBEq,Nat.reduceBNe,Qk,Qe,Value.cells,am,mm,keep, zRr, q3, c3, g3, hcv3, hrl3, hl, hi4]; refine hK_ _ _ ?_; clear hK_ K_; repeat first | refine QL ?_ | refine QM ?_)))
      repeat first | refine Qo ?_ | refine Qn ?_
      refine awp_if false rfl (by simp only [aeval_tmp, look, ↓reduceIte, Nat.reduceEqDiff]; try rfl) (fun h => absurd h (by decide)) (fun _ => ?_)
      iterate 2 ((repeat first | refine Qo ?_ | refine Qn ?_); (first | (refine QK (by kernel_rfl) ?_; intro K_ hK_; simp -implicitDefEqProofs (disch := (try simp only [sl]); try omega) only [sm,QJ,Qj,Qi,Qq,QC,bd,look,aput,ty,↓reduceIte,Nat.reduceEqDiff,Nat.reduceAdd,Nat.reduceSub,Nat.reduceMul,Int.reduceLT,Int.reduceLE,Int.reduceNeg,Int.reduceToNat,reduceCtorEq,Nat.reduceBEq,Nat.reduceBNe,Qk,Qe,Value.cells,am,mm,keep, zRr, q3, c3, g3, hcv3, hrl3, hl]; refine hK_ _ _ ?_; clear hK_ K_; repeat first | refine QL ?_ | refine QM ?_) | (refine awp_exit ?_; (repeat first | refine aThen_exit ?_ | refine aIn_out rfl ?_); refine aIn_here ?_; repeat first | refine QL ?_ | refine QM ?_)))
      have hQ : eN ((b.drop 1).take 4) = pzQ b := by rw [pzQ, if_pos hok]
      rw [hQ] at q3 c3 hrl3
      repeat first | refine Qo ?_ | refine Qn ?_
      refine awp_forK [0, 2, 4] (fun x : Nat × AH => [(6, I64 x.1)]) (fun x : Nat × AH => x.2) (fun x : Nat × AH => x.1 ≤ 32 ∧ x.2[H1.length]? = some (.own (rc (pzP b) (pzQ b) (fillL (fun j => (b.drop 5).getD j 0) (zb 32) x.1))) ∧ But H1.length H2 x.2 ∧ x.2.length = H2.length) (fun x : Nat × AH => 32 - x.1) ((0, H3)) (⟨by simp only []; omega, q3, b3, l3⟩) (by repeat first | exact Forgets.nil | refine Forgets.cons (by first | (simp only [look, ↓reduceIte, Nat.reduceEqDiff]; done) | (simp only [look, ↓reduceIte, Nat.reduceEqDiff]; rfl) | simp [look]) ?_) rfl ?_
      clear q3 c3 g3 hcv3 hrl3 hlt hre3
      rintro ⟨i, H4⟩ ⟨hi, q3, b4, l4⟩
      simp only [] at hi q3 b4 l4 ⊢
      have c3 := AH.cells_own q3
      have g3 := got_lt q3
      have hcv3 : H4.cells gv = some cv := b4.cells (by omega) hcv2
      have hfl := fillL_length (fun j => (b.drop 5).getD j 0) (zb 32) i
      have hrl3 := rc_length (hfl.trans hz32) (pzP b) (pzQ b)
      by_cases hi5 : i < 32
      · have hk1 := hkv (5 + i) (by omega)
        rw [show b.getD (5 + i) 0 = (b.drop 5).getD i 0 by simp [List.getD_eq_getElem?_getD]] at hk1
        have hs := rc_seti (d := fillL (fun j => (b.drop 5).getD j 0) (zb 32) i) (i := i) (pzP b) (pzQ b) ((b.drop 5).getD i 0)
        iterate 1 ((repeat first | refine Qo ?_ | refine Qn ?_); (first | (refine QK (by kernel_rfl) ?_; intro K_ hK_; simp -implicitDefEqProofs (disch := (try simp only [sl]); try omega) only [sm,QJ,Qj,Qi,Qq,QC,bd,look,aput,QI,abin,anil,ty,↓reduceIte,Nat.reduceEqDiff,Nat.reduceAdd,Nat.reduceSub,Nat.reduceMul,Int.reduceLT,Int.reduceLE,Int.reduceNeg,Int.reduceToNat,reduceCtorEq,Nat.reduceBEq,Nat.reduceBNe,Qk,Qe,Value.cells,am,mm,keep, zRr, q3, c3, g3, hcv3, hrl3, hk1, hl, hs, hi5]; refine hK_ _ _ ?_; clear hK_ K_; repeat first | refine QL ?_ | refine QM ?_)))
        repeat first | refine Qo ?_ | refine Qn ?_
        refine awp_if true rfl (by simp only [aeval_tmp, look, ↓reduceIte, Nat.reduceEqDiff]; try rfl) (fun _ => ?_) (fun h => absurd h (by decide))
        iterate 3 ((repeat first | refine Qo ?_ | refine Qn ?_); (first | (refine QK (by kernel_rfl) ?_; intro K_ hK_; simp -implicitDefEqProofs (disch := (try simp only [sl]); try omega) only [sm,QJ,Qj,Qi,Qq,QC,Qz,bd,QF,look,aput,Qm,QI,abin,anil,Qb,Qc,QA,ty,↓reduceIte,Nat.reduceEqDiff,Nat.reduceAdd,Nat.reduceSub,Nat.reduceMul,Int.reduceLT,Int.reduceLE,Int.reduceNeg,Int.reduceToNat,reduceCtorEq,Nat.reduceBEq,Nat.reduceBNe,Qk,Qe,Value.cells,am,mm,keep, zRr, q3, c3, g3, hcv3, hrl3, hk1, hl, hs, hi5]; refine hK_ _ _ ?_; clear hK_ K_; repeat first | refine QL ?_ | refine QM ?_) | (refine awp_skip ?_; repeat first | refine QL ?_ | refine QM ?_)))
        refine ⟨(i + 1, H4.set H1.length (.own (rc (pzP b) (pzQ b) (fillL (fun j => (b.drop 5).getD j 0) (zb 32) (i + 1))))), ⟨by simp only []; omega, gset _ _ _ g3, b4.set _, by simp only []; rw [List.length_set]; exact l4⟩, (by repeat first | exact Forgets.nil | refine Forgets.cons (by first | (simp only [look, ↓reduceIte, Nat.reduceEqDiff]; done) | (simp only [look, ↓reduceIte, Nat.reduceEqDiff]; rfl) | simp [look]) ?_), ?_⟩
        first | omega | exact ⟨rfl, by omega⟩ | exact ⟨rfl, by simp only []; omega⟩ | (simp only []; omega)
      obtain rfl : i = 32 := by omega
      have hD : fillL (fun j => (b.drop 5).getD j 0) (zb 32) 32 = pzD b := by rw [pzD, if_pos hok]; exact fillL_self _ _ _ _ hdl5 hz32
      rw [hD] at q3 c3 hrl3
      have hDl := pzD_length b
      have htk := rc_take hDl (pzP b) (pzQ b)
      have hov2 := rc_ovr hz32 hDl 0 (pzP b) 0 (pzQ b)
      have x4 : Ext H H4 := Ext.trans xH1 (fun p y hy => b4 p y (by have := got_lt hy; omega) (xH2 _ _ hy))
      have q0 : H4[H.length]? = some (.own (rc 0 0 (zb 32))) := b4 _ _ (by omega) (xH2 _ _ hq1)
      have c0 := AH.cells_own q0
      have g0 := got_lt q0
      iterate 1 ((repeat first | refine Qo ?_ | refine Qn ?_); (first | (refine QK (by kernel_rfl) ?_; intro K_ hK_; simp -implicitDefEqProofs (disch := (try simp only [sl]); try omega) only [sm,QJ,Qj,Qi,Qq,QC,bd,look,aput,QI,abin,anil,ty,↓reduceIte,Nat.reduceEqDiff,Nat.reduceAdd,Nat.reduceSub,Nat.reduceMul,Int.reduceLT,Int.reduceLE,Int.reduceNeg,Int.reduceToNat,reduceCtorEq,Nat.reduceBEq,Nat.reduceBNe,Qk,Qe,Value.cells,am,mm,keep, zRr, q3, c3, g3, hrl3, hl, htk, hov2, q0, c0, g0, hra, hrz, hi5]; refine hK_ _ _ ?_; clear hK_ K_; repeat first | refine QL ?_ | refine QM ?_)))
      repeat first | refine Qo ?_ | refine Qn ?_
      refine awp_if false rfl (by simp only [aeval_tmp, look, ↓reduceIte, Nat.reduceEqDiff]; try rfl) (fun h => absurd h (by decide)) (fun _ => ?_)
      iterate 2 ((repeat first | refine Qo ?_ | refine Qn ?_); (first | (refine QK (by kernel_rfl) ?_; intro K_ hK_; simp -implicitDefEqProofs (disch := (try simp only [sl]); try omega) only [sm,QJ,Qj,Qi,Qq,QC,Qz,bd,QF,look,aput,Qm,QA,ty,↓reduceIte,Nat.reduceEqDiff,Nat.reduceAdd,Nat.reduceSub,Nat.reduceMul,Int.reduceLT,Int.reduceLE,Int.reduceNeg,Int.reduceToNat,reduceCtorEq,Nat.reduceBEq,Nat.reduceBNe,Qk,Qe,Value.cells,am,mm,keep, zRr, q3, c3, g3, hrl3, hl, htk, hov2, q0, c0, g0, hra, hrz]; refine hK_ _ _ ?_; clear hK_ K_; repeat first | refine QL ?_ | refine QM ?_) | (refine awp_exit ?_; (repeat first | refine aThen_exit ?_ | refine aIn_out rfl ?_); refine aIn_here ?_; repeat first | refine QL ?_ | refine QM ?_)))
      first | refine awp_ret ?_ | skip
      show ∃ v, aresults Tryd.prog Tryd.f81 _ _ = some v ∧ _
      rw [aresults_2 (r := .cell 2 79) (s := .tmp 3) (by kernel_rfl)]
      simp -implicitDefEqProofs (disch := (try simp only [sl]); try omega) only [aresult, Option.some.injEq, exists_eq_left', sm,Qj,Qi,Qq,QC,Qz,bd,QF,look,aput,QB,Qf,QA,ty,↓reduceIte,Nat.reduceEqDiff,Nat.reduceAdd,Nat.reduceSub,Nat.reduceMul,Int.reduceLT,Int.reduceLE,Int.reduceNeg,Int.reduceToNat,reduceCtorEq,Nat.reduceBEq,Nat.reduceBNe,Qk,Qe,Value.cells,am,mm,keep, zRr, q3, c3, g3, hrl3, hl, htk, hov2, q0, c0, g0, hra, hrz]
      rw [pzE, if_pos hok]
      exact ⟨rfl, x4.set _ (by omega)⟩
    · have hn : (1 : Int) < ((b.getD 0 0).toNat : Int) := by
        have : ¬ (b.getD 0 0).toNat ≤ 1 := fun k => hok ⟨hl, k⟩
        omega
      have hn2 : (1 : Nat) < (b.getD 0 0).toNat := by omega
      iterate 1 ((repeat first | refine Qo ?_ | refine Qn ?_); (first | (refine QK (by kernel_rfl) ?_; intro K_ hK_; simp -implicitDefEqProofs (disch := (try simp only [sl]); try omega) only [sm,QJ,Qj,Qi,Qq,QC,Qz,bd,QF,look,aput,QI,abin,anil,Qb,QA,ty,↓reduceIte,Nat.reduceEqDiff,Nat.reduceAdd,Nat.reduceSub,Nat.reduceMul,Int.reduceLT,Int.reduceLE,Int.reduceNeg,Int.reduceToNat,reduceCtorEq,Nat.reduceBEq,Nat.reduceBNe,Qk,Qe,Value.cells,am,mm,keep, f_, fo_, aint, lv, zRr, hrz, hra, hcv1, hkv0, hl, hb, hn, hn2]; refine hK_ _ _ ?_; clear hK_ K_; repeat first | refine QL ?_ | refine QM ?_)))
      repeat first | refine Qo ?_ | refine Qn ?_
      refine awp_if true rfl (by simp only [aeval_tmp, look, ↓reduceIte, Nat.reduceEqDiff]; try rfl) (fun _ => ?_) (fun h => absurd h (by decide))
      iterate 1 ((repeat first | refine Qo ?_ | refine Qn ?_); (first | (refine QK (by kernel_rfl) ?_; intro K_ hK_; simp -implicitDefEqProofs (disch := (try simp only [sl]); try omega) only [sm,QJ,Qj,Qi,Qq,QC,bd,look,aput,Qm,ty,↓reduceIte,Nat.reduceEqDiff,Nat.reduceAdd,Nat.reduceSub,Nat.reduceMul,Int.reduceLT,Int.reduceLE,Int.reduceNeg,Int.reduceToNat,reduceCtorEq,Nat.reduceBEq,Nat.reduceBNe,Qk,Qe,Value.cells,am,mm,keep, f_, fo_, aint, lv, zRr, hrz, hra, hcv1, hkv0, hl, bd]; refine hK_ _ _ ?_; clear hK_ K_; repeat first | refine QL ?_ | refine QM ?_)))
      first | refine awp_ret ?_ | skip
      show ∃ v, aresults Tryd.prog Tryd.f81 _ _ = some v ∧ _
      rw [aresults_2 (r := .cell 2 79) (s := .tmp 3) (by kernel_rfl)]
      simp -implicitDefEqProofs (disch := (try simp only [sl]); try omega) only [aresult, Option.some.injEq, exists_eq_left', sm,Qj,Qi,Qq,QC,Qz,bd,QF,look,aput,QB,Qf,QA,ty,↓reduceIte,Nat.reduceEqDiff,Nat.reduceAdd,Nat.reduceSub,Nat.reduceMul,Int.reduceLT,Int.reduceLE,Int.reduceNeg,Int.reduceToNat,reduceCtorEq,Nat.reduceBEq,Nat.reduceBNe,Qk,Qe,Value.cells,am,mm,keep, f_, fo_, aint, lv, zRr, hrz, hra, hcv1, hkv0, hl]
      rw [pzP, pzQ, pzD, pzE, if_neg hok, if_neg hok, if_neg hok, if_neg hok]
      exact ⟨rfl, N_.ext.set _ (by omega)⟩
  · have hb : ((b.length : Int) != 37) = true := by rw [bne_iff_ne]; omega
    iterate 1 ((repeat first | refine Qo ?_ | refine Qn ?_); (first | (refine QK (by kernel_rfl) ?_; intro K_ hK_; simp -implicitDefEqProofs (disch := (try simp only [sl]); try omega) only [sm,QJ,Qj,Qi,Qq,QC,Qz,bd,QF,look,aput,QI,abin,anil,Qb,QA,ty,↓reduceIte,Nat.reduceEqDiff,Nat.reduceAdd,Nat.reduceSub,Nat.reduceMul,Int.reduceLT,Int.reduceLE,Int.reduceNeg,Int.reduceToNat,reduceCtorEq,Nat.reduceBEq,Nat.reduceBNe,Qk,Qe,Value.cells,am,mm,keep, f_, fo_, aint, lv, zRr, hrz, hra, hb]; refine hK_ _ _ ?_; clear hK_ K_; repeat first | refine QL ?_ | refine QM ?_)))
    repeat first | refine Qo ?_ | refine Qn ?_
    refine awp_if true rfl (by simp only [aeval_tmp, look, ↓reduceIte, Nat.reduceEqDiff]; try rfl) (fun _ => ?_) (fun h => absurd h (by decide))
    iterate 1 ((repeat first | refine Qo ?_ | refine Qn ?_); (first | (refine QK (by kernel_rfl) ?_; intro K_ hK_; simp -implicitDefEqProofs (disch := (try simp only [sl]); try omega) only [sm,QJ,Qj,Qi,Qq,QC,bd,look,aput,Qm,ty,↓reduceIte,Nat.reduceEqDiff,Nat.reduceAdd,Nat.reduceSub,Nat.reduceMul,Int.reduceLT,Int.reduceLE,Int.reduceNeg,Int.reduceToNat,reduceCtorEq,Nat.reduceBEq,Nat.reduceBNe,Qk,Qe,Value.cells,am,mm,keep, f_, fo_, aint, lv, zRr, hrz, hra, bd]; refine hK_ _ _ ?_; clear hK_ K_; repeat first | refine QL ?_ | refine QM ?_)))
    first | refine awp_ret ?_ | skip
    show ∃ v, aresults Tryd.prog Tryd.f81 _ _ = some v ∧ _
    rw [aresults_2 (r := .cell 2 79) (s := .tmp 3) (by kernel_rfl)]
    simp -implicitDefEqProofs (disch := (try simp only [sl]); try omega) only [aresult, Option.some.injEq, exists_eq_left', sm,Qj,Qi,Qq,QC,Qz,bd,QF,look,aput,QB,Qf,QA,ty,↓reduceIte,Nat.reduceEqDiff,Nat.reduceAdd,Nat.reduceSub,Nat.reduceMul,Int.reduceLT,Int.reduceLE,Int.reduceNeg,Int.reduceToNat,reduceCtorEq,Nat.reduceBEq,Nat.reduceBNe,Qk,Qe,Value.cells,am,mm,keep, f_, fo_, aint, lv, zRr, hrz, hra]
    have hn : ¬ okP b := fun h => hl h.1
    rw [pzP, pzQ, pzD, pzE, if_neg hn, if_neg hn, if_neg hn, if_neg hn]
    exact ⟨rfl, N_.ext.set _ (by omega)⟩
end Go.Proofs.YtfhbieimffjjkaaDoor
