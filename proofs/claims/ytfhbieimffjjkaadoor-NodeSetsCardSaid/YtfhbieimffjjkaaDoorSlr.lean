/- seal: Lay; what the document says of it. -/
import Derived.Test.YtfhbieimffjjkaaDoorSpl
import Derived.Test.YtfhbieimffjjkaaDoorPk7
namespace Go.Proofs.YtfhbieimffjjkaaDoor
open Go Go.RowKit
--hide
set_option linter.unusedSimpArgs false
set_option linter.unusedVariables false
set_option maxRecDepth 4000
theorem rc_slice {H : AH} {g e' : Nat} {p : Int} {e : UInt32} {d : List UInt8} (hd : d.length = 32) (h : H.cells g = some (rc p e d)) : SL H (.slice (some ⟨g, 2, none⟩) 32 e') (d.map U8) :=
  .inr ⟨g, 2, e', by rw [List.length_map, hd], .inr ⟨_, h, by rw [rc_length hd, List.length_map, hd]; decide, by rw [List.length_map, hd]; exact rc_d hd p e⟩⟩
theorem cv_i8 (p : Int) : IntKind.u8.wrap p = (((w64 p).toUInt8).toNat : Int) := by
  rw [wrap8, UInt64.toNat_toUInt8, w64, UInt64.toNat_ofNat']
  omega
set_option maxHeartbeats 4000000 in
theorem slay_calls (p : Int) (e : UInt32) (d : List UInt8) (H : AH) (hd : d.length = 32) :
    ACalls Tryd.prog 74 #[.agg (rc p e d).toArray] H fun w H' => SL H' w ((layB p e d).map U8) ∧ Ext H H' := by
  have hrl := rc_length hd p e
  have hra := rc_cellv
  have hre := rc_e p e d
  have hrp := rc_p p e d
  have hrd := rc_d hd p e
  have hw := wint64 p
  have h1 : sizedN 1 = 1 := rfl
  have h4 : sizedN 4 = 4 := rfl
  have fo_ : True := trivial
  have N_ := Now.start H
  have f_ := N_.has
  simp only [Has] at f_
  refine acalls_of_body Tryd.func74 rfl Tryd.ntmps74 (by simp) ?_
  simp only [argsT, Nat.reduceAdd]
  iterate 1 ((repeat first | refine Qo ?_ | refine Qn ?_); (first | (refine QK (by kernel_rfl) ?_; intro K_ hK_; simp -implicitDefEqProofs (disch := (try simp only [sl]); try omega) only [sm,QJ,Qj,Qi,Qq,QC,bd,look,aput,ty,↓reduceIte,Nat.reduceEqDiff,Nat.reduceAdd,Nat.reduceSub,Nat.reduceMul,Int.reduceLT,Int.reduceLE,Int.reduceNeg,Int.reduceToNat,reduceCtorEq,Nat.reduceBEq,Nat.reduceBNe,Qk,Qe,Value.cells,am,mm,keep, f_, fo_, hrl, hra, hre, hrp, hrd, hw]; refine hK_ _ _ ?_; clear hK_ K_; repeat first | refine QL ?_ | refine QM ?_)))
  first | refine AWp.snap8 N_ ?_ | refine AWp.snap7 N_ ?_ | refine AWp.snap6 N_ ?_ | refine AWp.snap5 N_ ?_ | refine AWp.snap4 N_ ?_ | refine AWp.snap3 N_ ?_ | refine AWp.snap2 N_ ?_ | refine AWp.snap1 N_ ?_
  clear fo_; have fo_ := f_; clear f_ N_; intro H1 xH1 lH1 N_
  have f_ := N_.has
  simp only [Has] at f_
  (repeat first | refine Qo ?_ | refine Qn ?_); refine awp_region_drawK (id := 1) [(0, []), (1, []), (2, []), (4, []), (5, []), (6, []), (8, []), (9, []), (3, [5, 6]), (7, []), (10, []), (11, [])] mixed (by kernel_rfl) ?_; intro K_ hK_; simp -implicitDefEqProofs (disch := (try simp only [sl]); try omega) only [sm,aSel,Qu,Qv,Qw,Qx,Qy,Qj,Qi,Qq,QC,Qz,bd,QF,look,aput,Qm,QH,Qg,Qc,QA,Qr,loN,hiN,ty,↓reduceIte,Nat.reduceEqDiff,Nat.reduceAdd,Nat.reduceSub,Nat.reduceMul,Int.reduceLT,Int.reduceLE,Int.reduceNeg,Int.reduceToNat,reduceCtorEq,Nat.reduceBEq,Nat.reduceBNe,Qk,Qe,Value.cells,am,mm,keep, f_, fo_, hrl, hra, hre, hrp, hrd, hw]
  refine ACalls.mono (num_calls _ [] (w64 p) 1 H1 (.inl ⟨rfl, rfl⟩) (Nat.zero_le _) (by decide) (by decide)) ?_
  rintro s2 H2 ⟨o2, e2⟩
  rw [h1, show ([] ++ numB (w64 p) 1 : List UInt8) = [(w64 p).toUInt8] from rfl] at o2
  replace N_ := N_.grow e2
  clear fo_; have fo_ := f_; clear f_
  have f_ := N_.has
  simp only [Has] at f_
  try simp -implicitDefEqProofs (disch := (try simp only [sl]); try omega) only [sm,aSel,Qu,Qv,Qw,Qx,Qy,Qj,Qi,Qq,QC,Qz,bd,QF,look,aput,Qm,QH,Qg,Qc,QA,Qr,loN,hiN,ty,↓reduceIte,Nat.reduceEqDiff,Nat.reduceAdd,Nat.reduceSub,Nat.reduceMul,Int.reduceLT,Int.reduceLE,Int.reduceNeg,Int.reduceToNat,reduceCtorEq,Nat.reduceBEq,Nat.reduceBNe,Qk,Qe,Value.cells,am,mm,keep, f_, fo_, hrl, hra, hre, hrp, hrd, hw]
  try (refine hK_ _ _ ?_; clear hK_ K_; repeat first | refine QL ?_ | refine QM ?_)
  refine ACalls.mono (num_calls s2 _ e.toUInt64 4 H2 o2.sl (by simp) (by decide) (by decide)) ?_
  rintro s3 H3 ⟨o3, e3⟩
  rw [h4, numB_e] at o3
  replace N_ := N_.grow e3
  clear fo_; have fo_ := f_; clear f_
  have f_ := N_.has
  simp only [Has] at f_
  have ts := rc_slice (e' := 0) hd f_.1.2.2
  obtain ⟨s4, H4, ha4, o4, k4⟩ := OS.app (P := Tryd.prog) (t := 22) (tx := 22) (bytes := 1) (by simp only [ty]) (by simp only [ty]) o3 ts (all8 _) (by simp only [List.length_append, List.length_map, eB_length, List.length_singleton]; omega) (by decide) e3.length
  have x4 : Ext H2 H4 := k4.ext (Nat.le_refl _) e3
  rw [← List.map_append] at o4
  try simp -implicitDefEqProofs (disch := (try simp only [sl]); try omega) only [sm,aSel,Qu,Qv,Qw,Qx,Qy,Qj,Qi,Qq,QC,Qz,bd,QF,look,aput,Qm,QH,Qg,Qc,QA,Qr,loN,hiN,ty,↓reduceIte,Nat.reduceEqDiff,Nat.reduceAdd,Nat.reduceSub,Nat.reduceMul,Int.reduceLT,Int.reduceLE,Int.reduceNeg,Int.reduceToNat,reduceCtorEq,Nat.reduceBEq,Nat.reduceBNe,Qk,Qe,Value.cells,am,mm,keep, f_, fo_, hrl, hra, hre, hrp, hrd, hw, ha4]
  try (refine hK_ _ _ ?_; clear hK_ K_; repeat first | refine QL ?_ | refine QM ?_)
  first | refine awp_ret ?_ | skip
  show ∃ v, aresults Tryd.prog Tryd.f74 _ _ = some v ∧ _
  rw [aresults_1 (r := .tmp 2) (by kernel_rfl)]
  simp -implicitDefEqProofs (disch := (try simp only [sl]); try omega) only [aresult, Option.some.injEq, exists_eq_left', sm,Qj,Qi,Qq,QC,Qz,bd,QF,look,aput,QB,Qf,QA,ty,↓reduceIte,Nat.reduceEqDiff,Nat.reduceAdd,Nat.reduceSub,Nat.reduceMul,Int.reduceLT,Int.reduceLE,Int.reduceNeg,Int.reduceToNat,reduceCtorEq,Nat.reduceBEq,Nat.reduceBNe,Qk,Qe,Value.cells,am,mm,keep, f_, fo_, hrl, hra, hre, hrp, hrd, hw]
  exact ⟨o4.sl, xH1.trans (e2.trans x4)⟩
set_option maxHeartbeats 4000000 in
theorem reflay_calls (p : Int) (e : UInt32) (d : List UInt8) (H : AH) (hd : d.length = 32) :
    ACalls Tryd.prog 75 #[.agg (rc p e d).toArray] H fun w H' => SL H' w ((layB p e d).map U8) ∧ Ext H H' := by
  have hrl := rc_length hd p e
  have hra := rc_cellv
  have hre := rc_e p e d
  have hrp := rc_p p e d
  have hrd := rc_d hd p e
  have hw := cv_i8 p
  have fo_ : True := trivial
  have N_ := Now.start H
  have f_ := N_.has
  simp only [Has] at f_
  refine acalls_of_body Tryd.func75 rfl Tryd.ntmps75 (by simp) ?_
  simp only [argsT, Nat.reduceAdd]
  iterate 1 ((repeat first | refine Qo ?_ | refine Qn ?_); (first | (refine QK (by kernel_rfl) ?_; intro K_ hK_; simp -implicitDefEqProofs (disch := (try simp only [sl]); try omega) only [sm,QJ,Qj,Qi,Qq,QC,bd,look,aput,ty,↓reduceIte,Nat.reduceEqDiff,Nat.reduceAdd,Nat.reduceSub,Nat.reduceMul,Int.reduceLT,Int.reduceLE,Int.reduceNeg,Int.reduceToNat,reduceCtorEq,Nat.reduceBEq,Nat.reduceBNe,Qk,Qe,Value.cells,am,mm,keep, f_, fo_, hrl, hra, hre, hrp, hrd, hw, bd]; refine hK_ _ _ ?_; clear hK_ K_; repeat first | refine QL ?_ | refine QM ?_)))
  first | refine AWp.snap8 N_ ?_ | refine AWp.snap7 N_ ?_ | refine AWp.snap6 N_ ?_ | refine AWp.snap5 N_ ?_ | refine AWp.snap4 N_ ?_ | refine AWp.snap3 N_ ?_ | refine AWp.snap2 N_ ?_ | refine AWp.snap1 N_ ?_
  clear fo_; have fo_ := f_; clear f_ N_; intro H1 xH1 lH1 N_
  have f_ := N_.has
  simp only [Has] at f_
  iterate 2 ((repeat first | refine Qo ?_ | refine Qn ?_); (first | (refine QK (by kernel_rfl) ?_; intro K_ hK_; simp -implicitDefEqProofs (disch := (try simp only [sl]); try omega) only [sm,QJ,Qj,Qi,Qq,QC,Qz,bd,QF,look,aput,QH,Qg,Qc,QA,ty,↓reduceIte,Nat.reduceEqDiff,Nat.reduceAdd,Nat.reduceSub,Nat.reduceMul,Int.reduceLT,Int.reduceLE,Int.reduceNeg,Int.reduceToNat,reduceCtorEq,Nat.reduceBEq,Nat.reduceBNe,Qk,Qe,Value.cells,am,mm,keep, f_, fo_, hrl, hra, hre, hrp, hrd, hw, bd]; refine hK_ _ _ ?_; clear hK_ K_; repeat first | refine QL ?_ | refine QM ?_)))
  have o1 : OS H1.length (H1 ++ [ABlk.own [U8 (w64 p).toUInt8]]) (.slice (some ⟨H1.length, 0, none⟩) 1 1) [U8 (w64 p).toUInt8] := OS.new (Nat.le_refl _) rfl
  repeat first | refine Qo ?_ | refine Qn ?_
  refine awp_forK [1] (fun x : Nat × Value × AH => [(4, I64 x.1), (3, x.2.1)]) (fun x : Nat × Value × AH => x.2.2) (fun x : Nat × Value × AH => x.1 ≤ 4 ∧ OS H1.length x.2.2 x.2.1 (([(w64 p).toUInt8] ++ eB e x.1).map U8) ∧ Ext H1 x.2.2) (fun x : Nat × Value × AH => 4 - x.1) ((0, .slice (some ⟨H1.length, 0, none⟩) 1 1, H1 ++ [ABlk.own [U8 (w64 p).toUInt8]])) (⟨by simp only []; omega, o1, Ext.push _ _⟩) (by repeat first | exact Forgets.nil | refine Forgets.cons (by first | (simp only [look, ↓reduceIte, Nat.reduceEqDiff]; done) | (simp only [look, ↓reduceIte, Nat.reduceEqDiff]; rfl) | simp [look]) ?_) rfl ?_
  rintro ⟨i, s, H2⟩ ⟨hi, o2, x2⟩
  simp only [] at hi o2 x2 ⊢
  replace N_ := N_.grow x2
  clear fo_; have fo_ := f_; clear f_
  have f_ := N_.has
  simp only [Has] at f_
  have hel := eB_length e i
  by_cases hlt : i < 4
  · obtain ⟨s3, H3, ha3, o3, k3⟩ := OS.app1 (P := Tryd.prog) (t := 22) (tx := 22) (bytes := 1) (c := U8 (e >>> UInt32.ofNat (8 * i)).toUInt8) (by simp only [ty]) (by simp only [ty]) o2 rfl (by simp only [List.length_append, List.length_map, List.length_singleton, hel]; omega) (by decide) x2.length
    have x3 : Ext H1 H3 := k3.ext (Nat.le_refl _) x2
    have ho3 : ([(w64 p).toUInt8] ++ eB e i).map U8 ++ [U8 (e >>> UInt32.ofNat (8 * i)).toUInt8] = ([(w64 p).toUInt8] ++ eB e (i + 1)).map U8 := by simp only [eB_succ, List.map_append, List.append_assoc]; rfl
    rw [ho3] at o3
    iterate 1 ((repeat first | refine Qo ?_ | refine Qn ?_); (first | (refine QK (by kernel_rfl) ?_; intro K_ hK_; simp -implicitDefEqProofs (disch := (try simp only [sl]); try omega) only [sm,QJ,Qj,Qi,Qq,QC,bd,look,aput,QI,abin,anil,ty,↓reduceIte,Nat.reduceEqDiff,Nat.reduceAdd,Nat.reduceSub,Nat.reduceMul,Int.reduceLT,Int.reduceLE,Int.reduceNeg,Int.reduceToNat,reduceCtorEq,Nat.reduceBEq,Nat.reduceBNe,Qk,Qe,Value.cells,am,mm,keep, f_, fo_, hrl, hra, hre, hrp, hrd, hw, bd, hlt]; refine hK_ _ _ ?_; clear hK_ K_; repeat first | refine QL ?_ | refine QM ?_)))
    repeat first | refine Qo ?_ | refine Qn ?_
    refine awp_if true rfl (by simp only [aeval_tmp, look, ↓reduceIte, Nat.reduceEqDiff]; try rfl) (fun _ => ?_) (fun h => absurd h (by decide))
    iterate 3 ((repeat first | refine Qo ?_ | refine Qn ?_); (first | (refine QK (by kernel_rfl) ?_; intro K_ hK_; simp -implicitDefEqProofs (disch := (try simp only [sl]); try omega) only [sm,QJ,Qj,Qi,Qq,QC,Qz,bd,QF,look,aput,Qm,QH,Qg,QI,abin,anil,Qc,QA,ty,↓reduceIte,Nat.reduceEqDiff,Nat.reduceAdd,Nat.reduceSub,Nat.reduceMul,Int.reduceLT,Int.reduceLE,Int.reduceNeg,Int.reduceToNat,reduceCtorEq,Nat.reduceBEq,Nat.reduceBNe,Qk,Qe,Value.cells,am,mm,keep, f_, fo_, hrl, hra, hre, hrp, hrd, hw, bd, hlt, ha3]; refine hK_ _ _ ?_; clear hK_ K_; repeat first | refine QL ?_ | refine QM ?_) | (refine awp_skip ?_; repeat first | refine QL ?_ | refine QM ?_)))
    refine ⟨(i + 1, s3, H3), ⟨by simp only []; omega, o3, x3⟩, (by repeat first | exact Forgets.nil | refine Forgets.cons (by first | (simp only [look, ↓reduceIte, Nat.reduceEqDiff]; done) | (simp only [look, ↓reduceIte, Nat.reduceEqDiff]; rfl) | simp [look]) ?_), ?_⟩
    first | omega | exact ⟨rfl, by omega⟩ | exact ⟨rfl, by simp only []; omega⟩ | (simp only []; omega)
  obtain rfl : i = 4 := by omega
  iterate 1 ((repeat first | refine Qo ?_ | refine Qn ?_); (first | (refine QK (by kernel_rfl) ?_; intro K_ hK_; simp -implicitDefEqProofs (disch := (try simp only [sl]); try omega) only [sm,QJ,Qj,Qi,Qq,QC,bd,look,aput,QI,abin,anil,ty,↓reduceIte,Nat.reduceEqDiff,Nat.reduceAdd,Nat.reduceSub,Nat.reduceMul,Int.reduceLT,Int.reduceLE,Int.reduceNeg,Int.reduceToNat,reduceCtorEq,Nat.reduceBEq,Nat.reduceBNe,Qk,Qe,Value.cells,am,mm,keep, f_, fo_, hrl, hra, hre, hrp, hrd, hw, bd, hlt]; refine hK_ _ _ ?_; clear hK_ K_; repeat first | refine QL ?_ | refine QM ?_)))
  repeat first | refine Qo ?_ | refine Qn ?_
  refine awp_if false rfl (by simp only [aeval_tmp, look, ↓reduceIte, Nat.reduceEqDiff]; try rfl) (fun h => absurd h (by decide)) (fun _ => ?_)
  have ts := rc_slice (e' := 0) hd f_.1.2.2
  obtain ⟨s4, H4, ha4, o4, k4⟩ := OS.app (P := Tryd.prog) (t := 22) (tx := 22) (bytes := 1) (by simp only [ty]) (by simp only [ty]) o2 ts (all8 _) (by simp only [List.length_append, List.length_map, eB_length, List.length_singleton]; omega) (by decide) x2.length
  have x4 : Ext H1 H4 := k4.ext (Nat.le_refl _) x2
  rw [← List.map_append] at o4
  iterate 2 ((repeat first | refine Qo ?_ | refine Qn ?_); (first | (refine QK (by kernel_rfl) ?_; intro K_ hK_; simp -implicitDefEqProofs (disch := (try simp only [sl]); try omega) only [sm,QJ,Qj,Qi,Qq,QC,bd,look,aput,Qm,Qc,Qr,loN,hiN,ty,↓reduceIte,Nat.reduceEqDiff,Nat.reduceAdd,Nat.reduceSub,Nat.reduceMul,Int.reduceLT,Int.reduceLE,Int.reduceNeg,Int.reduceToNat,reduceCtorEq,Nat.reduceBEq,Nat.reduceBNe,Qk,Qe,Value.cells,am,mm,keep, f_, fo_, hrl, hra, hre, hrp, hrd, hw, bd, ha4]; refine hK_ _ _ ?_; clear hK_ K_; repeat first | refine QL ?_ | refine QM ?_) | (refine awp_exit ?_; (repeat first | refine aThen_exit ?_ | refine aIn_out rfl ?_); refine aIn_here ?_; repeat first | refine QL ?_ | refine QM ?_)))
  first | refine awp_ret ?_ | skip
  show ∃ v, aresults Tryd.prog Tryd.f75 _ _ = some v ∧ _
  rw [aresults_1 (r := .tmp 2) (by kernel_rfl)]
  simp -implicitDefEqProofs (disch := (try simp only [sl]); try omega) only [aresult, Option.some.injEq, exists_eq_left', sm,Qj,Qi,Qq,QC,Qz,bd,QF,look,aput,QB,Qf,QA,ty,↓reduceIte,Nat.reduceEqDiff,Nat.reduceAdd,Nat.reduceSub,Nat.reduceMul,Int.reduceLT,Int.reduceLE,Int.reduceNeg,Int.reduceToNat,reduceCtorEq,Nat.reduceBEq,Nat.reduceBNe,Qk,Qe,Value.cells,am,mm,keep, f_, fo_, hrl, hra, hre, hrp, hrd, hw, bd]
  exact ⟨o4.sl, xH1.trans x4⟩
end Go.Proofs.YtfhbieimffjjkaaDoor
