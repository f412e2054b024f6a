/- The document's wrap: check. -/
import Derived.Test.YtelpdppdhimfoaaWp5
namespace Go.Proofs.Ytelpdppdhimfoaa
open Go Go.RowKit
--hide
set_option linter.unusedSimpArgs false
set_option linter.unusedVariables false
set_option maxRecDepth 4000
theorem num4_small (r : Nat) (h : r ≤ 100) : numB (w64 (r : Int)) 4 = [UInt8.ofNat r, 0, 0, 0] := by
  have h1 : w64 (r : Int) = UInt64.ofNat r := by rw [w64]; congr 1; omega
  have h2 : ∀ n : Nat, n ≤ 100 → numB (UInt64.ofNat n) 4 = [UInt8.ofNat n, 0, 0, 0] := by decide +kernel
  rw [h1, h2 r h]
theorem sh4 (r i : Nat) (h : r ≤ 100) (hi : i < 4) : ((r >>> (8 * i) % 256 : Nat) : Int) = ((((numB (w64 (r : Int)) 4).getD i 0).toNat : Nat) : Int) := by
  rw [num4_small r h]
  have h2 : ∀ n : Nat, n ≤ 100 → ∀ i : Nat, i < 4 → (n >>> (8 * i) % 256) = ([UInt8.ofNat n, 0, 0, 0].getD i 0).toNat := by decide +kernel
  rw [h2 r h i hi]
set_option maxHeartbeats 4000000 in
theorem refcheck_calls (s : List UInt8) (r : Int) (k c b : List UInt8) (H : AH) (hw : WK.ok ⟨s, r, k, c⟩) (hb : b.length = 32) (hin : inR r) :
    ACalls Try.prog 41 #[.agg (b.map U8).toArray, .agg (wcells s r k c).toArray] H fun v H' => v = .agg ((checkB s r k b).map U8).toArray ∧ Ext H H' := by
  have hz32 := zb_length 32
  have hwl := wcells_length hw
  have hpr := wcells_r hw
  have hs : s.length = 16 := hw.1
  have hk : k.length = 32 := hw.2.1
  have fo_ : True := trivial
  have N_ := Now.start H
  have f_ := N_.has
  simp only [Has] at f_
  refine acalls_of_body Try.func41 rfl Try.ntmps41 (by simp) ?_
  simp only [argsT, Nat.reduceAdd]
  iterate 1 ((repeat first | refine Qo ?_ | refine Qn ?_); (first | (refine QK (by kernel_rfl) ?_; intro K_ hK_; simp -implicitDefEqProofs (disch := (try simp only [sl]); try omega) only [sm,QJ,Qj,Qi,Qq,QC,bd,look,aput,ty,↓reduceIte,Nat.reduceEqDiff,Nat.reduceAdd,Nat.reduceSub,Nat.reduceMul,Int.reduceLT,Int.reduceLE,Int.reduceNeg,Int.reduceToNat,reduceCtorEq,Nat.reduceBEq,Nat.reduceBNe,Qk,Qe,Value.cells,am,mm,keep, f_, hb, hwl, QO, hpr, hz32]; refine hK_ _ _ ?_; clear hK_ K_; repeat first | refine QL ?_ | refine QM ?_)))
  first | refine AWp.snap8 N_ ?_ | refine AWp.snap7 N_ ?_ | refine AWp.snap6 N_ ?_ | refine AWp.snap5 N_ ?_ | refine AWp.snap4 N_ ?_ | refine AWp.snap3 N_ ?_ | refine AWp.snap2 N_ ?_ | refine AWp.snap1 N_ ?_
  clear fo_; have fo_ := f_; clear f_ N_; intro H1 xH1 lH1 N_
  have f_ := N_.has
  simp only [Has] at f_
  have hT1 : SL H1 (.slice (some ⟨H.length + 1, 0, none⟩) 16 0) (s.map U8) := SL.within 0 16 0 f_.2.1.2.2 (wcells_s' hw) (by rw [hwl]; decide)
  obtain ⟨s1, H2, ha1, o1, k1⟩ := OS.app (P := Try.prog) (t := 22) (tx := 22) (bytes := 1) (by simp only [ty]) (by simp only [ty]) (OS.nil H1.length H1) hT1 (all8 _) (by rw [List.length_nil, List.length_map]; omega) (by decide) (Nat.le_refl _)
  rw [List.nil_append] at o1
  iterate 2 ((repeat first | refine Qo ?_ | refine Qn ?_); (first | (refine QK (by kernel_rfl) ?_; intro K_ hK_; simp -implicitDefEqProofs (disch := (try simp only [sl]); try omega) only [sm,QJ,Qj,Qi,Qq,QC,bd,look,aput,Qm,Qc,Qr,loN,hiN,ty,↓reduceIte,Nat.reduceEqDiff,Nat.reduceAdd,Nat.reduceSub,Nat.reduceMul,Int.reduceLT,Int.reduceLE,Int.reduceNeg,Int.reduceToNat,reduceCtorEq,Nat.reduceBEq,Nat.reduceBNe,Qk,Qe,Value.cells,am,mm,keep, f_, hb, hwl, QO, hpr, hz32, ha1]; refine hK_ _ _ ?_; clear hK_ K_; repeat first | refine QL ?_ | refine QM ?_)))
  obtain ⟨n, rfl⟩ := Int.eq_ofNat_of_zero_le (show 0 ≤ r by unfold inR at hin; omega)
  have hn : n ≤ 100 := by unfold inR at hin; omega
  have hnl := numB_length (w64 (n : Int)) 4
  have hsh := fun i (hi : i < 4) => sh4 n i hn hi
  generalize hnb : numB (w64 (n : Int)) 4 = nb at *
  repeat first | refine Qo ?_ | refine Qn ?_
  refine awp_forK [2, 3, 4] (fun i : Nat × AH × Value => [(6, I64 i.1), (5, i.2.2)]) (fun i : Nat × AH × Value => i.2.1) (fun i : Nat × AH × Value => i.1 ≤ 4 ∧ Keeps H1.length H1 i.2.1 ∧ OS H1.length i.2.1 i.2.2 ((s ++ nb.take i.1).map U8)) (fun i : Nat × AH × Value => 4 - i.1) ((0, H2, s1)) (⟨by omega, k1, by simpa using o1⟩) (by repeat first | exact Forgets.nil | refine Forgets.cons (by first | (simp only [look, ↓reduceIte, Nat.reduceEqDiff]; done) | (simp only [look, ↓reduceIte, Nat.reduceEqDiff]; rfl) | simp [look]) ?_) rfl ?_
  rintro ⟨i, H3, s3⟩ ⟨hi, k3, o3⟩
  simp only [] at hi k3 o3 ⊢
  have x3 : Ext H1 H3 := k3.ext (Nat.le_refl _) (Ext.refl _)
  have N3 := N_.grow x3
  have f3 := N3.has
  simp only [Has] at f3
  by_cases hlt : i < 4
  · -- R3
    iterate 1 ((repeat first | refine Qo ?_ | refine Qn ?_); (first | (refine QK (by kernel_rfl) ?_; intro K_ hK_; simp -implicitDefEqProofs (disch := (try simp only [sl]); try omega) only [sm,QJ,Qj,Qi,Qq,QC,bd,look,aput,QI,abin,anil,ty,↓reduceIte,Nat.reduceEqDiff,Nat.reduceAdd,Nat.reduceSub,Nat.reduceMul,Int.reduceLT,Int.reduceLE,Int.reduceNeg,Int.reduceToNat,reduceCtorEq,Nat.reduceBEq,Nat.reduceBNe,Qk,Qe,Value.cells,am,mm,keep, f3, hb, hwl, QO, hpr, hz32, hlt]; refine hK_ _ _ ?_; clear hK_ K_; repeat first | refine QL ?_ | refine QM ?_)))
    repeat first | refine Qo ?_ | refine Qn ?_
    refine awp_if true rfl (by simp only [aeval_tmp, look, ↓reduceIte, Nat.reduceEqDiff]; try rfl) (fun _ => ?_) (fun h => absurd h (by decide))
    obtain ⟨s4, H4, ha4, o4, k4⟩ := OS.app1 (P := Try.prog) (t := 22) (tx := 22) (bytes := 1) (c := U8 (nb.getD i 0)) (by simp only [ty]) (by simp only [ty]) o3 rfl (by rw [List.length_map, List.length_append, List.length_take]; omega) (by decide) k3.1
    have hsi : ashift .shr .i64 (n : Int) ((8 * i : Nat) : Int) = some (.int .i64 ((n >>> (8 * i) : Nat) : Int)) := by
      rw [ashift, if_neg (by omega)]
      simp only [Int.toNat_natCast, IntKind.bits]
      rw [Nat.min_eq_left (by omega), Nat.shiftRight_eq_div_pow, Int.natCast_ediv, Int.natCast_pow]
      rfl
    have hcv : IntKind.u8.wrap ((n >>> (8 * i) : Nat) : Int) = (((nb.getD i 0).toNat : Nat) : Int) := by
      rw [wrap8, ← hsh i hlt]; omega
    have hnx : (s ++ nb.take i).map U8 ++ [U8 (nb.getD i 0)] = (s ++ nb.take (i + 1)).map U8 := by
      rw [List.take_add_one, List.map_append, List.map_append, List.map_append, List.append_assoc, List.getElem?_eq_getElem (by omega), List.getD_eq_getElem?_getD, List.getElem?_eq_getElem (by omega)]
      rfl
    rw [hnx] at o4
    iterate 3 ((repeat first | refine Qo ?_ | refine Qn ?_); (first | (refine QK (by kernel_rfl) ?_; intro K_ hK_; simp -implicitDefEqProofs (disch := (try simp only [sl]); try omega) only [sm,QJ,Qj,Qi,Qq,QC,Qz,bd,QF,look,aput,Qm,QH,Qg,QI,abin,anil,Qc,QA,ty,↓reduceIte,Nat.reduceEqDiff,Nat.reduceAdd,Nat.reduceSub,Nat.reduceMul,Int.reduceLT,Int.reduceLE,Int.reduceNeg,Int.reduceToNat,reduceCtorEq,Nat.reduceBEq,Nat.reduceBNe,Qk,Qe,Value.cells,am,mm,keep, f3, hb, hwl, QO, hpr, hz32, hsi, hcv, ha4]; refine hK_ _ _ ?_; clear hK_ K_; repeat first | refine QL ?_ | refine QM ?_) | (refine awp_skip ?_; repeat first | refine QL ?_ | refine QM ?_)))
    refine ⟨(i + 1, H4, s4), ⟨by simp only []; omega, k3.trans k4, o4⟩, (by repeat first | exact Forgets.nil | refine Forgets.cons (by first | (simp only [look, ↓reduceIte, Nat.reduceEqDiff]; done) | (simp only [look, ↓reduceIte, Nat.reduceEqDiff]; rfl) | simp [look]) ?_), ?_⟩
    first | omega | exact ⟨rfl, by omega⟩ | exact ⟨rfl, by simp only []; omega⟩ | (simp only []; omega)
  · obtain rfl : i = 4 := by omega
    iterate 1 ((repeat first | refine Qo ?_ | refine Qn ?_); (first | (refine QK (by kernel_rfl) ?_; intro K_ hK_; simp -implicitDefEqProofs (disch := (try simp only [sl]); try omega) only [sm,QJ,Qj,Qi,Qq,QC,bd,look,aput,QI,abin,anil,ty,↓reduceIte,Nat.reduceEqDiff,Nat.reduceAdd,Nat.reduceSub,Nat.reduceMul,Int.reduceLT,Int.reduceLE,Int.reduceNeg,Int.reduceToNat,reduceCtorEq,Nat.reduceBEq,Nat.reduceBNe,Qk,Qe,Value.cells,am,mm,keep, f3, hb, hwl, QO, hpr, hz32, hlt]; refine hK_ _ _ ?_; clear hK_ K_; repeat first | refine QL ?_ | refine QM ?_)))
    repeat first | refine Qo ?_ | refine Qn ?_
    refine awp_if false rfl (by simp only [aeval_tmp, look, ↓reduceIte, Nat.reduceEqDiff]; try rfl) (fun h => absurd h (by decide)) (fun _ => ?_)
    rw [List.take_of_length_le (by omega)] at o3
    have hT3 : SL H3 (.slice (some ⟨H.length + 1, 17, none⟩) 32 0) (k.map U8) := SL.within 17 32 0 f3.2.1.2.2 (wcells_k hw) (by rw [hwl]; decide)
    obtain ⟨s4, H4, ha4, o4, k4⟩ := OS.app (P := Try.prog) (t := 22) (tx := 22) (bytes := 1) (by simp only [ty]) (by simp only [ty]) o3 hT3 (all8 _) (by rw [List.length_map, List.length_map, List.length_append]; omega) (by decide) k3.1
    rw [← List.map_append, List.append_assoc] at o4
    have x4 := (k3.trans k4).ext (Nat.le_refl _) (Ext.refl _)
    clear f3 N3
    replace N_ := N_.grow x4
    clear fo_; have fo_ := f_; clear f_
    have f_ := N_.has
    simp only [Has] at f_
    iterate 1 ((repeat first | refine Qo ?_ | refine Qn ?_); (first | (refine awp_region_drawK (id := 6) [(0, []), (1, []), (2, []), (3, []), (4, []), (5, []), (6, [])] mixed (by kernel_rfl) ?_; intro K_ hK_; simp -implicitDefEqProofs (disch := (try simp only [sl]); try omega) only [sm,aSel,Qu,Qv,Qw,Qx,Qy,Qj,Qi,Qq,QC,bd,look,aput,Qm,Qc,Qr,loN,hiN,ty,↓reduceIte,Nat.reduceEqDiff,Nat.reduceAdd,Nat.reduceSub,Nat.reduceMul,Int.reduceLT,Int.reduceLE,Int.reduceNeg,Int.reduceToNat,reduceCtorEq,Nat.reduceBEq,Nat.reduceBNe,Qk,Qe,Value.cells,am,mm,keep, f_, hb, hwl, QO, hpr, hz32, ha4]; refine hK_ _ _ ?_; clear hK_ K_; repeat first | refine QL ?_ | refine QM ?_) | (refine awp_exit ?_; (repeat first | refine aThen_exit ?_ | refine aIn_out rfl ?_); refine aIn_here ?_; repeat first | refine QL ?_ | refine QM ?_)))
    (repeat first | refine Qo ?_ | refine Qn ?_); refine awp_region_drawK (id := 6) [(0, []), (1, []), (2, []), (3, []), (4, []), (5, []), (6, [])] mixed (by kernel_rfl) ?_; intro K_ hK_; simp -implicitDefEqProofs (disch := (try simp only [sl]); try omega) only [sm,aSel,Qu,Qv,Qw,Qx,Qy,Qj,Qi,Qq,QC,bd,look,aput,Qm,Qc,Qr,loN,hiN,ty,↓reduceIte,Nat.reduceEqDiff,Nat.reduceAdd,Nat.reduceSub,Nat.reduceMul,Int.reduceLT,Int.reduceLE,Int.reduceNeg,Int.reduceToNat,reduceCtorEq,Nat.reduceBEq,Nat.reduceBNe,Qk,Qe,Value.cells,am,mm,keep, f_, hb, hwl, QO, hpr, hz32, ha4]
    have tb : SL H4 (.slice (some ⟨H.length, 0, none⟩) 32 0) (b.map U8) := SL.own 32 (by rw [List.length_map, hb]) f_.2.2.1.2.1
    refine ACalls.mono (refmac_calls _ _ b _ H4 tb o4.sl (by rw [hb]; decide) (by rw [List.length_append, List.length_append]; omega)) ?_
    rintro _ H5 ⟨rfl, e5⟩
    replace N_ := N_.grow e5
    clear fo_; have fo_ := f_; clear f_
    have f_ := N_.has
    simp only [Has] at f_
    have hcl := checkB_length s (n : Int) k b
    have hcd : macB b (s ++ (nb ++ k)) = checkB s (n : Int) k b := by rw [checkB, hnb]
    rw [hcd]
    generalize checkB s (n : Int) k b = ck at *
    have hov : ovr ((zb 32).map U8) 0 (ck.map U8) = ck.map U8 := ovr_all _ _ (by rw [List.length_map, List.length_map, hcl, hz32])
    try simp -implicitDefEqProofs (disch := (try simp only [sl]); try omega) only [sm,aSel,Qu,Qv,Qw,Qx,Qy,Qj,Qi,Qq,QC,bd,look,aput,Qm,Qc,Qr,loN,hiN,ty,↓reduceIte,Nat.reduceEqDiff,Nat.reduceAdd,Nat.reduceSub,Nat.reduceMul,Int.reduceLT,Int.reduceLE,Int.reduceNeg,Int.reduceToNat,reduceCtorEq,Nat.reduceBEq,Nat.reduceBNe,Qk,Qe,Value.cells,am,mm,keep, f_, hb, hwl, QO, hpr, hz32, hcl, hov]
    try (refine hK_ _ _ ?_; clear hK_ K_; repeat first | refine QL ?_ | refine QM ?_)
    first | refine awp_ret ?_ | skip
    show ∃ v, aresults Try.prog Try.f41 _ _ = some v ∧ _
    rw [aresults_1 (r := .cell 4 35) (by kernel_rfl)]
    simp -implicitDefEqProofs (disch := (try simp only [sl]); try omega) only [aresult, Option.some.injEq, exists_eq_left', sm,Qj,Qi,Qq,QC,Qz,bd,QF,look,aput,QB,Qf,QA,ty,↓reduceIte,Nat.reduceEqDiff,Nat.reduceAdd,Nat.reduceSub,Nat.reduceMul,Int.reduceLT,Int.reduceLE,Int.reduceNeg,Int.reduceToNat,reduceCtorEq,Nat.reduceBEq,Nat.reduceBNe,Qk,Qe,Value.cells,am,mm,keep, f_, hb, hwl, QO, hpr, hz32]
    exact N_.ext.set _ (by omega)
end Go.Proofs.Ytelpdppdhimfoaa
