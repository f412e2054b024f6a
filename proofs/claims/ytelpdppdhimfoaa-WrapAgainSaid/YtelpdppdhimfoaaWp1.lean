/- wrap: turned. -/
import Derived.Test.YtelpdppdhimfoaaCtn
import Derived.Test.YtelpdppdhimfoaaMk1
namespace Go.Proofs.Ytelpdppdhimfoaa
open Go Go.RowKit
set_option linter.unusedSimpArgs false
set_option linter.unusedVariables false
set_option maxRecDepth 4000
/-- Bytes turned by a key, with the first nonce. -/
def turnedB (k x : List UInt8) : List UInt8 := turnB k (nonceB 0 0) 0 x
theorem turnedB_length (k x : List UInt8) : (turnedB k x).length = x.length := turnB_length _ _ _ _
theorem nonceB_length (e : UInt32) (b : UInt64) : (nonceB e b).length = 12 := by rw [nonceB, List.length_map, List.length_range]
set_option maxHeartbeats 4000000 in
theorem wturned_calls (k x : List UInt8) (H : AH) (hk : k.length = 32) (hx : x.length = 32) :
    ACalls Try.prog 38 #[.agg (k.map U8).toArray, .agg (x.map U8).toArray] H fun v H' => v = .agg ((turnedB k x).map U8).toArray ∧ Ext H H' := by
  have hE0 : Ext H (H ++ [ABlk.own (k.map U8)] ++ [ABlk.own (x.map U8)] ++ [ABlk.own ((zb 32).map U8)]) := (by repeat first | assumption | exact Ext.refl _ | exact Ext.pre (by assumption) | exact Ext.pre (Ext.pre (by assumption)) | exact Ext.pre (Ext.pre (Ext.pre (by assumption))) | exact Ext.pre (Ext.pre (Ext.pre (Ext.pre (by assumption)))) | apply Ext.pushed | refine Ext.both ?_ _ _ | refine Ext.set ?_ _ (by omega))
  have hM1 : (H ++ [ABlk.own (k.map U8)] ++ [ABlk.own (x.map U8)] ++ [ABlk.own ((zb 32).map U8)])[H.length]? = some (.own (k.map U8)) := (by simp -implicitDefEqProofs (disch := (try simp only [sl]); try omega) only [sm,Qj,Qi,Qq,QC,bd,look,aput,ty,↓reduceIte,Nat.reduceEqDiff,Nat.reduceAdd,Nat.reduceSub,Nat.reduceMul,Int.reduceLT,Int.reduceLE,Int.reduceNeg,Int.reduceToNat,reduceCtorEq,Nat.reduceBEq,Nat.reduceBNe,Qk,Qe,Value.cells,am,mm,keep])
  have hM2 : (H ++ [ABlk.own (k.map U8)] ++ [ABlk.own (x.map U8)] ++ [ABlk.own ((zb 32).map U8)])[H.length + 1]? = some (.own (x.map U8)) := (by simp -implicitDefEqProofs (disch := (try simp only [sl]); try omega) only [sm,Qj,Qi,Qq,QC,bd,look,aput,ty,↓reduceIte,Nat.reduceEqDiff,Nat.reduceAdd,Nat.reduceSub,Nat.reduceMul,Int.reduceLT,Int.reduceLE,Int.reduceNeg,Int.reduceToNat,reduceCtorEq,Nat.reduceBEq,Nat.reduceBNe,Qk,Qe,Value.cells,am,mm,keep])
  have hM3 : (H ++ [ABlk.own (k.map U8)] ++ [ABlk.own (x.map U8)] ++ [ABlk.own ((zb 32).map U8)])[H.length + 2]? = some (.own ((zb 32).map U8)) := (by simp -implicitDefEqProofs (disch := (try simp only [sl]); try omega) only [sm,Qj,Qi,Qq,QC,bd,look,aput,ty,↓reduceIte,Nat.reduceEqDiff,Nat.reduceAdd,Nat.reduceSub,Nat.reduceMul,Int.reduceLT,Int.reduceLE,Int.reduceNeg,Int.reduceToNat,reduceCtorEq,Nat.reduceBEq,Nat.reduceBNe,Qk,Qe,Value.cells,am,mm,keep])
  refine acalls_of_body Try.func38 rfl Try.ntmps38 (by simp) ?_
  simp only [argsT, Nat.reduceAdd]
  iterate 1 ((repeat first | refine Qo ?_ | refine Qn ?_); (first | refine Qp (by kernel_rfl) ?_); simp -implicitDefEqProofs (disch := (try simp only [sl]); try omega) only [sm,QJ,Qj,Qi,Qq,QC,bd,look,aput,QB,Qf,ty,↓reduceIte,Nat.reduceEqDiff,Nat.reduceAdd,Nat.reduceSub,Nat.reduceMul,Int.reduceLT,Int.reduceLE,Int.reduceNeg,Int.reduceToNat,reduceCtorEq,Nat.reduceBEq,Nat.reduceBNe,Qk,Qe,Value.cells,am,mm,keep, hk, hx, QO])
  generalize H ++ [ABlk.own (k.map U8)] ++ [ABlk.own (x.map U8)] ++ [ABlk.own ((zb 32).map U8)] = H0 at *
  have c1 := AH.cells_own hM1
  iterate 1 ((repeat first | refine Qo ?_ | refine Qn ?_); (first | refine awp_region_drawC (id := 1) [(0, []), (1, []), (3, []), (2, [1]), (4, []), (5, [])] mixed (by kernel_rfl) ?_); simp -implicitDefEqProofs (disch := (try simp only [sl]); try omega) only [sm,aSel,Qu,Qv,Qw,Qx,Qy,Qj,Qi,Qq,QC,Qz,bd,QF,look,aput,Qm,QB,Qf,QA,Qr,loN,hiN,ty,↓reduceIte,Nat.reduceEqDiff,Nat.reduceAdd,Nat.reduceSub,Nat.reduceMul,Int.reduceLT,Int.reduceLE,Int.reduceNeg,Int.reduceToNat,reduceCtorEq,Nat.reduceBEq,Nat.reduceBNe,Qk,Qe,Value.cells,am,mm,keep, hk, hx, QO, c1])
  refine ACalls.mono (nonce_calls 0 0 H0) ?_
  rintro _ H1 ⟨rfl, e1⟩
  have hnl := nonceB_length 0 0
  have htb : turnB k (nonceB 0 0) 0 x = turnedB k x := rfl
  have htl := turnedB_length k x
  rw [hx] at htl
  have d1 := e1.cells c1
  try simp -implicitDefEqProofs (disch := (try simp only [sl]); try omega) only [sm,aSel,Qu,Qv,Qw,Qx,Qy,Qj,Qi,Qq,QC,Qz,bd,QF,look,aput,Qm,QB,Qf,QA,Qr,loN,hiN,ty,↓reduceIte,Nat.reduceEqDiff,Nat.reduceAdd,Nat.reduceSub,Nat.reduceMul,Int.reduceLT,Int.reduceLE,Int.reduceNeg,Int.reduceToNat,reduceCtorEq,Nat.reduceBEq,Nat.reduceBNe,Qk,Qe,Value.cells,am,mm,keep, hk, hx, QO, c1, d1]
  have t1 : SL H1 (.slice (some ⟨H.length + 1, 0, none⟩) 32 0) (x.map U8) := SL.own 32 (by rw [List.length_map, hx]) (e1 _ _ hM2)
  refine ACalls.mono (turn_calls' k (nonceB 0 0) 0 _ x H1 hk hnl t1 (by omega)) ?_
  rintro w H2 ⟨hw, e2⟩
  rw [htb] at hw
  have x2 := e1.trans e2
  have q2 := x2 _ _ hM2
  have p2 := x2 _ _ hM3
  have d2 := e2.cells d1
  obtain ⟨H3, hc3, q3, k3, l3⟩ := copy_own (P := Try.prog) (t := 22) (tx := 22) (bytes := 1) (e := 0) (n := 32) (by simp only [ty]) (by simp only [ty]) hw (all8 _) q2 (by rw [List.length_map, hx]) (by rw [List.length_map, List.length_map, hx, htl]; exact Nat.le_refl _)
  rw [List.length_map, htl, List.drop_eq_nil_of_le (by rw [List.length_map, hx]; exact Nat.le_refl _), List.append_nil] at q3
  rw [List.length_map, htl] at hc3
  have x3 : Ext H H3 := fun p y hy => k3 p y (by have := (List.getElem?_eq_some_iff.1 hy).1; omega) (x2 _ _ (hE0 _ _ hy))
  have p3 := k3 _ _ (by omega) p2
  have g3 := got_lt p3
  have c3 := AH.cells_own q3
  have hov : ovr ((zb 32).map U8) 0 ((turnedB k x).map U8) = (turnedB k x).map U8 := ovr_all _ _ (by rw [List.length_map, List.length_map, htl, zb_length])
  try simp -implicitDefEqProofs (disch := (try simp only [sl]); try omega) only [sm,aSel,Qu,Qv,Qw,Qx,Qy,Qj,Qi,Qq,QC,Qz,bd,QF,look,aput,Qm,QB,Qf,QA,Qr,loN,hiN,ty,↓reduceIte,Nat.reduceEqDiff,Nat.reduceAdd,Nat.reduceSub,Nat.reduceMul,Int.reduceLT,Int.reduceLE,Int.reduceNeg,Int.reduceToNat,reduceCtorEq,Nat.reduceBEq,Nat.reduceBNe,Qk,Qe,Value.cells,am,mm,keep, hk, hx, QO, c1, d1, d2, hc3]
  iterate 1 ((repeat first | refine Qo ?_ | refine Qn ?_); (first | refine Qp (by kernel_rfl) ?_); simp -implicitDefEqProofs (disch := (try simp only [sl]); try omega) only [sm,QJ,Qj,Qi,Qq,QC,Qz,bd,QF,look,aput,Qm,QB,Qf,QA,ty,↓reduceIte,Nat.reduceEqDiff,Nat.reduceAdd,Nat.reduceSub,Nat.reduceMul,Int.reduceLT,Int.reduceLE,Int.reduceNeg,Int.reduceToNat,reduceCtorEq,Nat.reduceBEq,Nat.reduceBNe,Qk,Qe,Value.cells,am,mm,keep, hk, hx, QO, c3, htl, p3, g3, hov, zb_length])
  first | refine awp_ret ?_ | skip
  show ∃ v, aresults Try.prog Try.f38 _ _ = some v ∧ _
  rw [aresults_1 (r := .cell 4 35) (by kernel_rfl)]
  simp -implicitDefEqProofs (disch := (try simp only [sl]); try omega) only [aresult, Option.some.injEq, exists_eq_left', sm,Qj,Qi,Qq,QC,Qz,bd,QF,look,aput,QB,Qf,QA,ty,↓reduceIte,Nat.reduceEqDiff,Nat.reduceAdd,Nat.reduceSub,Nat.reduceMul,Int.reduceLT,Int.reduceLE,Int.reduceNeg,Int.reduceToNat,reduceCtorEq,Nat.reduceBEq,Nat.reduceBNe,Qk,Qe,Value.cells,am,mm,keep, hk, hx, QO]
  exact Ext.set (g := H.length + 2) x3 _ (by omega)
end Go.Proofs.Ytelpdppdhimfoaa
