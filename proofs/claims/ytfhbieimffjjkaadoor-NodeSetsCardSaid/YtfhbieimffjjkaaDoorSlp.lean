/- seal: Parse. -/
import Derived.Test.YtfhbieimffjjkaaDoorSlr
import Derived.Test.YtfhbieimffjjkaaDoorCpy
namespace Go.Proofs.YtfhbieimffjjkaaDoor
open Go Go.RowKit
--hide
set_option linter.unusedSimpArgs false
set_option linter.unusedVariables false
set_option maxRecDepth 4000
theorem rc_copy {d : List UInt8} (h : d.length = 32) (p : Int) (e : UInt32) (ws : List UInt8) (hw : ws.length = 32) : (rc p e d).take 2 ++ ws.map U8 ++ (rc p e d).drop (2 + 32) = rc p e ws := by
  rw [List.drop_of_length_le (by rw [rc_length h]; decide), List.append_nil]
  rfl
set_option maxHeartbeats 8000000 in
theorem sparse_calls (v : Value) (b : List UInt8) (H : AH) (hv : SL H v (b.map U8)) :
    ACalls Tryd.prog 80 #[v] H fun w H' => w = .tuple #[.agg (rc (pzP b) (pzQ b) (pzD b)).toArray, .int .i64 (pzE b)] ∧ Ext H H' := by
  have lv := alen_sl (P := Tryd.prog) (T := 22) (by simp only [ty]) hv
  rw [List.length_map] at lv
  have hz32 := zb_length 32
  have hrz := rc_length hz32 0 0
  have hra := rc_cellv
  have hu1 : U64 1 = .int .u64 1 := rfl
  have hu2 : U64 4294967295 = .int .u64 4294967295 := rfl
  have h1 : sizedN 1 = 1 := rfl
  have h4 : sizedN 4 = 4 := rfl
  have fo_ : True := trivial
  have N_ := Now.start H
  have f_ := N_.has
  simp only [Has] at f_
  refine acalls_of_body Tryd.func80 rfl Tryd.ntmps80 (by simp) ?_
  simp only [argsT, Nat.reduceAdd]
  iterate 1 ((repeat first | refine Qo ?_ | refine Qn ?_); (first | (refine QK (by kernel_rfl) ?_; intro K_ hK_; simp -implicitDefEqProofs (disch := (try simp only [sl]); try omega) only [sm,QJ,Qj,Qi,Qq,QC,bd,look,aput,ty,↓reduceIte,Nat.reduceEqDiff,Nat.reduceAdd,Nat.reduceSub,Nat.reduceMul,Int.reduceLT,Int.reduceLE,Int.reduceNeg,Int.reduceToNat,reduceCtorEq,Nat.reduceBEq,Nat.reduceBNe,Qk,Qe,Value.cells,am,mm,keep, f_, fo_, aint, lv, zR, hrz, hra]; refine hK_ _ _ ?_; clear hK_ K_; repeat first | refine QL ?_ | refine QM ?_)))
  first | refine AWp.snap8 N_ ?_ | refine AWp.snap7 N_ ?_ | refine AWp.snap6 N_ ?_ | refine AWp.snap5 N_ ?_ | refine AWp.snap4 N_ ?_ | refine AWp.snap3 N_ ?_ | refine AWp.snap2 N_ ?_ | refine AWp.snap1 N_ ?_
  clear fo_; have fo_ := f_; clear f_ N_; intro H1 xH1 lH1 N_
  have f_ := N_.has
  simp only [Has] at f_
  by_cases hl : b.length = 37
  · have hb : ((b.length : Int) != 37) = false := by rw [hl]; rfl
    iterate 1 ((repeat first | refine Qo ?_ | refine Qn ?_); (first | (refine QK (by kernel_rfl) ?_; intro K_ hK_; simp -implicitDefEqProofs (disch := (try simp only [sl]); try omega) only [sm,QJ,Qj,Qi,Qq,QC,bd,look,aput,QI,abin,anil,ty,↓reduceIte,Nat.reduceEqDiff,Nat.reduceAdd,Nat.reduceSub,Nat.reduceMul,Int.reduceLT,Int.reduceLE,Int.reduceNeg,Int.reduceToNat,reduceCtorEq,Nat.reduceBEq,Nat.reduceBNe,Qk,Qe,Value.cells,am,mm,keep, f_, fo_, aint, lv, zR, hrz, hra, hb]; refine hK_ _ _ ?_; clear hK_ K_; repeat first | refine QL ?_ | refine QM ?_)))
    repeat first | refine Qo ?_ | refine Qn ?_
    refine awp_if false rfl (by simp only [aeval_tmp, look, ↓reduceIte, Nat.reduceEqDiff]; try rfl) (fun h => absurd h (by decide)) (fun _ => ?_)
    iterate 1 ((repeat first | refine Qo ?_ | refine Qn ?_); (first | (refine QK (by kernel_rfl) ?_; intro K_ hK_; simp -implicitDefEqProofs (disch := (try simp only [sl]); try omega) only [sm,QJ,Qj,Qi,Qq,QC,bd,look,aput,Qm,ty,↓reduceIte,Nat.reduceEqDiff,Nat.reduceAdd,Nat.reduceSub,Nat.reduceMul,Int.reduceLT,Int.reduceLE,Int.reduceNeg,Int.reduceToNat,reduceCtorEq,Nat.reduceBEq,Nat.reduceBNe,Qk,Qe,Value.cells,am,mm,keep, f_, fo_, aint, lv, zR, hrz, hra]; refine hK_ _ _ ?_; clear hK_ K_; repeat first | refine QL ?_ | refine QM ?_) | (refine awp_skip ?_; repeat first | refine QL ?_ | refine QM ?_)))
    (repeat first | refine Qo ?_ | refine Qn ?_); refine QK (by kernel_rfl) ?_; intro K_ hK_; simp -implicitDefEqProofs (disch := (try simp only [sl]); try omega) only [sm,QJ,Qj,Qi,Qq,QC,bd,look,aput,Qm,ty,↓reduceIte,Nat.reduceEqDiff,Nat.reduceAdd,Nat.reduceSub,Nat.reduceMul,Int.reduceLT,Int.reduceLE,Int.reduceNeg,Int.reduceToNat,reduceCtorEq,Nat.reduceBEq,Nat.reduceBNe,Qk,Qe,Value.cells,am,mm,keep, f_, fo_, aint, lv, zR, hrz, hra]
    refine ACalls.mono (rdread_calls _ b H1 (hv.mono xH1) H1.length ((hv.mono xH1).blk)) ?_
    rintro _ H2 ⟨g, rfl, hg, i2, e2⟩
    replace N_ := N_.grow e2
    clear fo_; have fo_ := f_; clear f_
    have f_ := N_.has
    simp only [Has] at f_
    try simp -implicitDefEqProofs (disch := (try simp only [sl]); try omega) only [sm,QJ,Qj,Qi,Qq,QC,bd,look,aput,Qm,ty,↓reduceIte,Nat.reduceEqDiff,Nat.reduceAdd,Nat.reduceSub,Nat.reduceMul,Int.reduceLT,Int.reduceLE,Int.reduceNeg,Int.reduceToNat,reduceCtorEq,Nat.reduceBEq,Nat.reduceBNe,Qk,Qe,Value.cells,am,mm,keep, f_, fo_, aint, lv, zR, hrz, hra]
    try (refine hK_ _ _ ?_; clear hK_ K_; repeat first | refine QL ?_ | refine QM ?_)
    (repeat first | refine Qo ?_ | refine Qn ?_); refine QK (by kernel_rfl) ?_; intro K_ hK_; simp -implicitDefEqProofs (disch := (try simp only [sl]); try omega) only [sm,QJ,Qj,Qi,Qq,QC,Qz,bd,QF,look,aput,Qm,QH,Qg,ty,↓reduceIte,Nat.reduceEqDiff,Nat.reduceAdd,Nat.reduceSub,Nat.reduceMul,Int.reduceLT,Int.reduceLE,Int.reduceNeg,Int.reduceToNat,reduceCtorEq,Nat.reduceBEq,Nat.reduceBNe,Qk,Qe,Value.cells,am,mm,keep, f_, fo_, aint, lv, zR, hrz, hra]
    by_cases hok : okP b
    · obtain ⟨r1, r1'⟩ := (rd_parse b hl).1 hok
      obtain ⟨r2, r2'⟩ := rd_epoch b hl
      obtain ⟨r3, r3'⟩ := rd_digest b hl
      rw [← hu1]
      refine ACalls.mono (rdnum_calls g 1 1 _ H2 H1.length hg i2 (by simp only []; omega) (by decide) (by decide)) ?_
      rintro _ H3 ⟨rfl, i3, b3⟩
      rw [h1, r1]
      rw [h1, r1'] at i3
      replace N_ := N_.but b3 (by omega) (by repeat first | exact List.forall_mem_nil _ | refine List.forall_mem_cons.2 ⟨by simp only []; omega, ?_⟩)
      clear fo_; have fo_ := f_; clear f_
      have f_ := N_.has
      simp only [Has] at f_
      have hcv : IntKind.i64.wrap (((b.getD 0 0).toUInt64.toNat : Nat) : Int) = ((b.getD 0 0).toNat : Int) := by rw [UInt8.toNat_toUInt64, wi64 _ (by have := hok.2; omega) (by have := hok.2; omega)]
      try simp -implicitDefEqProofs (disch := (try simp only [sl]); try omega) only [sm,QJ,Qj,Qi,Qq,QC,Qz,bd,QF,look,aput,Qm,QH,Qg,ty,↓reduceIte,Nat.reduceEqDiff,Nat.reduceAdd,Nat.reduceSub,Nat.reduceMul,Int.reduceLT,Int.reduceLE,Int.reduceNeg,Int.reduceToNat,reduceCtorEq,Nat.reduceBEq,Nat.reduceBNe,Qk,Qe,Value.cells,am,mm,keep, f_, fo_, aint, lv, zR, hrz, hra, hcv]
      try (refine hK_ _ _ ?_; clear hK_ K_; repeat first | refine QL ?_ | refine QM ?_)
      rw [← hu2]
      refine ACalls.mono (rdnum_calls g 4 4294967295 _ H3 H1.length hg i3 (by simp only [List.length_drop]; omega) (by decide) (by decide)) ?_
      rintro _ H4 ⟨rfl, i4, b4⟩
      rw [h4, r2]
      rw [h4, r2'] at i4
      replace N_ := N_.but b4 (by omega) (by repeat first | exact List.forall_mem_nil _ | refine List.forall_mem_cons.2 ⟨by simp only []; omega, ?_⟩)
      clear fo_; have fo_ := f_; clear f_
      have f_ := N_.has
      simp only [Has] at f_
      have hE : (leN ((b.drop 1).take 4)).toUInt32 = pzQ b := by rw [pzQ, if_pos hok]; rfl
      have hP : ((b.getD 0 0).toNat : Int) = pzP b := by rw [pzP, if_pos hok]
      have hD : b.drop 5 = pzD b := by rw [pzD, if_pos hok]
      have hbd : ∀ (p : Int) (e : UInt32), Value.int .i64 p :: Value.int .u32 (e.toNat : Int) :: List.replicate 32 (Value.int .u8 0) = rc p e (zb 32) := fun _ _ => rfl
      simp only [List.replicate] at hbd
      have hov := rc_ovr hz32 hz32 0 (pzP b) 0 (pzQ b)
      have hrl := rc_length hz32 (pzP b) (pzQ b)
      rw [hP]
      try simp -implicitDefEqProofs (disch := (try simp only [sl]); try omega) only [sm,QJ,Qj,Qi,Qq,QC,Qz,bd,QF,look,aput,Qm,QH,Qg,ty,↓reduceIte,Nat.reduceEqDiff,Nat.reduceAdd,Nat.reduceSub,Nat.reduceMul,Int.reduceLT,Int.reduceLE,Int.reduceNeg,Int.reduceToNat,reduceCtorEq,Nat.reduceBEq,Nat.reduceBNe,Qk,Qe,Value.cells,am,mm,keep, f_, fo_, aint, zR, hrz, hra, hE, bd, hbd, hov, hrl]
      try (refine hK_ _ _ ?_; clear hK_ K_; repeat first | refine QL ?_ | refine QM ?_)
      first | refine AWp.snap8 N_ ?_ | refine AWp.snap7 N_ ?_ | refine AWp.snap6 N_ ?_ | refine AWp.snap5 N_ ?_ | refine AWp.snap4 N_ ?_ | refine AWp.snap3 N_ ?_ | refine AWp.snap2 N_ ?_ | refine AWp.snap1 N_ ?_
      clear fo_; have fo_ := f_; clear f_ N_; intro H5 xH5 lH5 N_
      have f_ := N_.has
      simp only [Has] at f_
      have i5 := i4.mono xH5
      (repeat first | refine Qo ?_ | refine Qn ?_); refine awp_region_drawK (id := 5) [(0, []), (1, []), (2, []), (3, []), (4, [])] mixed (by kernel_rfl) ?_; intro K_ hK_; simp -implicitDefEqProofs (disch := (try simp only [sl]); try omega) only [sm,aSel,Qu,Qv,Qw,Qx,Qy,Qj,Qi,Qq,QC,bd,look,aput,Qm,Qc,Qr,loN,hiN,ty,↓reduceIte,Nat.reduceEqDiff,Nat.reduceAdd,Nat.reduceSub,Nat.reduceMul,Int.reduceLT,Int.reduceLE,Int.reduceNeg,Int.reduceToNat,reduceCtorEq,Nat.reduceBEq,Nat.reduceBNe,Qk,Qe,Value.cells,am,mm,keep, f_, fo_, aint, zR, hrz, hra, hE, bd, hbd, hov, hrl]
      have hgl := i4.lt
      have hgl1 : H1.length ≤ H4.length := by omega
      refine ACalls.mono (rdbytes_calls g 32 _ H5 H1.length hg i5 (by simp only [List.length_drop]; omega) (by decide) (by decide)) ?_
      rintro u H6 ⟨i6, b6, o6⟩
      rw [show (32 : Int).toNat = 32 from rfl, r3'] at i6
      rw [show (32 : Int).toNat = 32 from rfl, r3, hD] at o6
      replace N_ := N_.but b6 (by omega) (by repeat first | exact List.forall_mem_nil _ | refine List.forall_mem_cons.2 ⟨by simp only []; omega, ?_⟩)
      clear fo_; have fo_ := f_; clear f_
      have f_ := N_.has
      simp only [Has] at f_
      have hDl := pzD_length b
      obtain ⟨pu, nu, eu, rfl⟩ := o6.sl.isSlice
      have hc : acopy Tryd.prog H6 22 22 (.slice (some ⟨H4.length, 2, none⟩) 32 0) (.slice pu nu eu) = _ := copy_at (n := 32) (bytes := 1) (by simp only [ty]) (by simp only [ty]) o6.sl (all8 _) f_.1.2.1 (by rw [List.length_map, hDl]) (by rw [hrl]; decide) (by decide)
      rw [rc_copy hz32 _ _ _ hDl] at hc
      try simp -implicitDefEqProofs (disch := (try simp only [sl]); try omega) only [sm,aSel,Qu,Qv,Qw,Qx,Qy,Qj,Qi,Qq,QC,bd,look,aput,Qm,Qc,Qr,loN,hiN,ty,↓reduceIte,Nat.reduceEqDiff,Nat.reduceAdd,Nat.reduceSub,Nat.reduceMul,Int.reduceLT,Int.reduceLE,Int.reduceNeg,Int.reduceToNat,reduceCtorEq,Nat.reduceBEq,Nat.reduceBNe,Qk,Qe,Value.cells,am,mm,keep, f_, fo_, aint, zR, hrz, hra, hE, bd, hbd, hov, hrl, hc]
      try (refine hK_ _ _ ?_; clear hK_ K_; repeat first | refine QL ?_ | refine QM ?_)
      refine AWp.snapset N_ (by omega) (by omega) ?_
      clear fo_; have fo_ := f_; clear f_ N_; intro H7 lH7 xH7 N_; simp (disch := omega) only [List.map_cons, List.map_nil, if_pos, if_neg, ↓reduceIte] at N_
      have f_ := N_.has
      simp only [Has] at f_
      have i7 := i6.but (by omega) hgl1 xH7
      have hrD := rc_length hDl (pzP b) (pzQ b)
      have htk := rc_take hDl (pzP b) (pzQ b)
      have hov2 := rc_ovr hz32 hDl 0 (pzP b) 0 (pzQ b)
      have h00 : ((0 : Int) != 0) = false := rfl
      (repeat first | refine Qo ?_ | refine Qn ?_); refine QK (by kernel_rfl) ?_; intro K_ hK_; simp -implicitDefEqProofs (disch := (try simp only [sl]); try omega) only [sm,QJ,Qj,Qi,Qq,QC,bd,look,aput,Qm,QI,abin,anil,ty,↓reduceIte,Nat.reduceEqDiff,Nat.reduceAdd,Nat.reduceSub,Nat.reduceMul,Int.reduceLT,Int.reduceLE,Int.reduceNeg,Int.reduceToNat,reduceCtorEq,Nat.reduceBEq,Nat.reduceBNe,Qk,Qe,Value.cells,am,mm,keep, f_, fo_, aint, hra, hrz, hrD, htk, hov2, h00]
      refine ACalls.mono (rderr_calls g _ H7 H1.length hg i7) ?_
      rintro _ _ ⟨rfl, hHH⟩
      rw [hHH]
      clear hHH
      simp -implicitDefEqProofs (disch := (try simp only [sl]); try omega) only [sm,QJ,Qj,Qi,Qq,QC,bd,look,aput,Qm,QI,abin,anil,ty,↓reduceIte,Nat.reduceEqDiff,Nat.reduceAdd,Nat.reduceSub,Nat.reduceMul,Int.reduceLT,Int.reduceLE,Int.reduceNeg,Int.reduceToNat,reduceCtorEq,Nat.reduceBEq,Nat.reduceBNe,Qk,Qe,Value.cells,am,mm,keep, f_, fo_, aint, hra, hrz, hrD, htk, hov2, h00]
      try (refine hK_ _ _ ?_; clear hK_ K_; repeat first | refine QL ?_ | refine QM ?_)
      try simp -implicitDefEqProofs (disch := (try simp only [sl]); try omega) only [sm,QJ,Qj,Qi,Qq,QC,bd,look,aput,Qm,QI,abin,anil,ty,↓reduceIte,Nat.reduceEqDiff,Nat.reduceAdd,Nat.reduceSub,Nat.reduceMul,Int.reduceLT,Int.reduceLE,Int.reduceNeg,Int.reduceToNat,reduceCtorEq,Nat.reduceBEq,Nat.reduceBNe,Qk,Qe,Value.cells,am,mm,keep, f_, fo_, aint, hra, hrz, hrD, htk, hov2, h00]
      try (refine hK_ _ _ ?_; clear hK_ K_; repeat first | refine QL ?_ | refine QM ?_)
      repeat first | refine Qo ?_ | refine Qn ?_
      refine awp_if false rfl (by simp only [aeval_tmp, look, ↓reduceIte, Nat.reduceEqDiff]; try rfl) (fun h => absurd h (by decide)) (fun _ => ?_)
      iterate 2 ((repeat first | refine Qo ?_ | refine Qn ?_); (first | (refine QK (by kernel_rfl) ?_; intro K_ hK_; simp -implicitDefEqProofs (disch := (try simp only [sl]); try omega) only [sm,QJ,Qj,Qi,Qq,QC,Qz,bd,QF,look,aput,Qm,QA,ty,↓reduceIte,Nat.reduceEqDiff,Nat.reduceAdd,Nat.reduceSub,Nat.reduceMul,Int.reduceLT,Int.reduceLE,Int.reduceNeg,Int.reduceToNat,reduceCtorEq,Nat.reduceBEq,Nat.reduceBNe,Qk,Qe,Value.cells,am,mm,keep, f_, fo_, aint, hra, hrz, hrD, htk, hov2, h00]; refine hK_ _ _ ?_; clear hK_ K_; repeat first | refine QL ?_ | refine QM ?_) | (refine awp_skip ?_; repeat first | refine QL ?_ | refine QM ?_)))
      first | refine awp_ret ?_ | skip
      show ∃ v, aresults Tryd.prog Tryd.f80 _ _ = some v ∧ _
      rw [aresults_2 (r := .cell 2 82) (s := .tmp 3) (by kernel_rfl)]
      simp -implicitDefEqProofs (disch := (try simp only [sl]); try omega) only [aresult, Option.some.injEq, exists_eq_left', sm,Qj,Qi,Qq,QC,Qz,bd,QF,look,aput,QB,Qf,QA,ty,↓reduceIte,Nat.reduceEqDiff,Nat.reduceAdd,Nat.reduceSub,Nat.reduceMul,Int.reduceLT,Int.reduceLE,Int.reduceNeg,Int.reduceToNat,reduceCtorEq,Nat.reduceBEq,Nat.reduceBNe,Qk,Qe,Value.cells,am,mm,keep, f_, fo_, aint, hra, hrz, hrD, htk, hov2, h00]
      rw [pzE, if_pos hok]
      exact ⟨rfl, N_.ext.set _ (by omega)⟩
    · obtain ⟨r1, r1'⟩ := (rd_parse b hl).2 hok
      obtain ⟨r2, r2'⟩ := rd_epoch3 (b.drop 1)
      obtain ⟨r3, r3'⟩ := rd_digest3 (b.drop 1)
      have hw0 : IntKind.i64.wrap ((UInt64.toNat 0 : Nat) : Int) = 0 := rfl
      have hw1 : IntKind.u32.wrap ((UInt64.toNat 0 : Nat) : Int) = 0 := rfl
      have hbd : ∀ (p : Int) (e : UInt32), Value.int .i64 p :: Value.int .u32 (e.toNat : Int) :: List.replicate 32 (Value.int .u8 0) = rc p e (zb 32) := fun _ _ => rfl
      simp only [List.replicate] at hbd
      have hbd := hbd 0 0
      rw [show ((UInt32.toNat 0 : Nat) : Int) = 0 from rfl] at hbd
      have hov := rc_ovr hz32 hz32 0 0 0 0
      have h30 : ((3 : Int) != 0) = true := rfl
      rw [← hu1]
      refine ACalls.mono (rdnum_calls g 1 1 _ H2 H1.length hg i2 (by simp only []; omega) (by decide) (by decide)) ?_
      rintro _ H3 ⟨rfl, i3, b3⟩
      rw [h1, r1]
      rw [h1, r1'] at i3
      replace N_ := N_.but b3 (by omega) (by repeat first | exact List.forall_mem_nil _ | refine List.forall_mem_cons.2 ⟨by simp only []; omega, ?_⟩)
      clear fo_; have fo_ := f_; clear f_
      have f_ := N_.has
      simp only [Has] at f_
      try simp -implicitDefEqProofs (disch := (try simp only [sl]); try omega) only [sm,QJ,Qj,Qi,Qq,QC,Qz,bd,QF,look,aput,Qm,QH,Qg,ty,↓reduceIte,Nat.reduceEqDiff,Nat.reduceAdd,Nat.reduceSub,Nat.reduceMul,Int.reduceLT,Int.reduceLE,Int.reduceNeg,Int.reduceToNat,reduceCtorEq,Nat.reduceBEq,Nat.reduceBNe,Qk,Qe,Value.cells,am,mm,keep, f_, fo_, aint, zR, hrz, hra, hw0, hw1, bd, hbd, hov, h30]
      try (refine hK_ _ _ ?_; clear hK_ K_; repeat first | refine QL ?_ | refine QM ?_)
      rw [← hu2]
      refine ACalls.mono (rdnum_calls g 4 4294967295 _ H3 H1.length hg i3 (by simp only [List.length_drop]; omega) (by decide) (by decide)) ?_
      rintro _ H4 ⟨rfl, i4, b4⟩
      rw [h4, r2]
      rw [h4, r2'] at i4
      replace N_ := N_.but b4 (by omega) (by repeat first | exact List.forall_mem_nil _ | refine List.forall_mem_cons.2 ⟨by simp only []; omega, ?_⟩)
      clear fo_; have fo_ := f_; clear f_
      have f_ := N_.has
      simp only [Has] at f_
      try simp -implicitDefEqProofs (disch := (try simp only [sl]); try omega) only [sm,QJ,Qj,Qi,Qq,QC,Qz,bd,QF,look,aput,Qm,QH,Qg,ty,↓reduceIte,Nat.reduceEqDiff,Nat.reduceAdd,Nat.reduceSub,Nat.reduceMul,Int.reduceLT,Int.reduceLE,Int.reduceNeg,Int.reduceToNat,reduceCtorEq,Nat.reduceBEq,Nat.reduceBNe,Qk,Qe,Value.cells,am,mm,keep, f_, fo_, aint, zR, hrz, hra, hw0, hw1, bd, hbd, hov, h30]
      try (refine hK_ _ _ ?_; clear hK_ K_; repeat first | refine QL ?_ | refine QM ?_)
      first | refine AWp.snap8 N_ ?_ | refine AWp.snap7 N_ ?_ | refine AWp.snap6 N_ ?_ | refine AWp.snap5 N_ ?_ | refine AWp.snap4 N_ ?_ | refine AWp.snap3 N_ ?_ | refine AWp.snap2 N_ ?_ | refine AWp.snap1 N_ ?_
      clear fo_; have fo_ := f_; clear f_ N_; intro H5 xH5 lH5 N_
      have f_ := N_.has
      simp only [Has] at f_
      have i5 := i4.mono xH5
      (repeat first | refine Qo ?_ | refine Qn ?_); refine awp_region_drawK (id := 5) [(0, []), (1, []), (2, []), (3, []), (4, [])] mixed (by kernel_rfl) ?_; intro K_ hK_; simp -implicitDefEqProofs (disch := (try simp only [sl]); try omega) only [sm,aSel,Qu,Qv,Qw,Qx,Qy,Qj,Qi,Qq,QC,bd,look,aput,Qm,Qc,Qr,loN,hiN,ty,↓reduceIte,Nat.reduceEqDiff,Nat.reduceAdd,Nat.reduceSub,Nat.reduceMul,Int.reduceLT,Int.reduceLE,Int.reduceNeg,Int.reduceToNat,reduceCtorEq,Nat.reduceBEq,Nat.reduceBNe,Qk,Qe,Value.cells,am,mm,keep, f_, fo_, aint, zR, hrz, hra, hw0, hw1, bd, hbd, hov, h30]
      have hgl := i4.lt
      have hgl1 : H1.length ≤ H4.length := by omega
      refine ACalls.mono (rdbytes_calls g 32 _ H5 H1.length hg i5 (by simp only [List.length_drop]; omega) (by decide) (by decide)) ?_
      rintro u H6 ⟨i6, b6, o6⟩
      rw [show (32 : Int).toNat = 32 from rfl, r3'] at i6
      rw [show (32 : Int).toNat = 32 from rfl, r3] at o6
      replace N_ := N_.but b6 (by omega) (by repeat first | exact List.forall_mem_nil _ | refine List.forall_mem_cons.2 ⟨by simp only []; omega, ?_⟩)
      clear fo_; have fo_ := f_; clear f_
      have f_ := N_.has
      simp only [Has] at f_
      obtain ⟨pu, nu, eu, rfl⟩ := o6.sl.isSlice
      have hc : acopy Tryd.prog H6 22 22 (.slice (some ⟨H4.length, 2, none⟩) 32 0) (.slice pu nu eu) = _ := copy_none (n := 32) (bytes := 1) (by simp only [ty]) (by simp only [ty]) o6.sl
      try simp -implicitDefEqProofs (disch := (try simp only [sl]); try omega) only [sm,aSel,Qu,Qv,Qw,Qx,Qy,Qj,Qi,Qq,QC,bd,look,aput,Qm,Qc,Qr,loN,hiN,ty,↓reduceIte,Nat.reduceEqDiff,Nat.reduceAdd,Nat.reduceSub,Nat.reduceMul,Int.reduceLT,Int.reduceLE,Int.reduceNeg,Int.reduceToNat,reduceCtorEq,Nat.reduceBEq,Nat.reduceBNe,Qk,Qe,Value.cells,am,mm,keep, f_, fo_, aint, zR, hrz, hra, hw0, hw1, bd, hbd, hov, h30, hc]
      try (refine hK_ _ _ ?_; clear hK_ K_; repeat first | refine QL ?_ | refine QM ?_)
      (repeat first | refine Qo ?_ | refine Qn ?_); refine QK (by kernel_rfl) ?_; intro K_ hK_; simp -implicitDefEqProofs (disch := (try simp only [sl]); try omega) only [sm,QJ,Qj,Qi,Qq,QC,bd,look,aput,Qm,QI,abin,anil,ty,↓reduceIte,Nat.reduceEqDiff,Nat.reduceAdd,Nat.reduceSub,Nat.reduceMul,Int.reduceLT,Int.reduceLE,Int.reduceNeg,Int.reduceToNat,reduceCtorEq,Nat.reduceBEq,Nat.reduceBNe,Qk,Qe,Value.cells,am,mm,keep, f_, fo_, aint, zR, hrz, hra, hw0, hw1, bd, hbd, hov, h30]
      refine ACalls.mono (rderr_calls g _ H6 H1.length hg i6) ?_
      rintro _ _ ⟨rfl, hHH⟩
      rw [hHH]
      clear hHH
      simp -implicitDefEqProofs (disch := (try simp only [sl]); try omega) only [sm,QJ,Qj,Qi,Qq,QC,bd,look,aput,Qm,QI,abin,anil,ty,↓reduceIte,Nat.reduceEqDiff,Nat.reduceAdd,Nat.reduceSub,Nat.reduceMul,Int.reduceLT,Int.reduceLE,Int.reduceNeg,Int.reduceToNat,reduceCtorEq,Nat.reduceBEq,Nat.reduceBNe,Qk,Qe,Value.cells,am,mm,keep, f_, fo_, aint, zR, hrz, hra, hw0, hw1, bd, hbd, hov, h30]
      try (refine hK_ _ _ ?_; clear hK_ K_; repeat first | refine QL ?_ | refine QM ?_)
      try simp -implicitDefEqProofs (disch := (try simp only [sl]); try omega) only [sm,QJ,Qj,Qi,Qq,QC,bd,look,aput,Qm,QI,abin,anil,ty,↓reduceIte,Nat.reduceEqDiff,Nat.reduceAdd,Nat.reduceSub,Nat.reduceMul,Int.reduceLT,Int.reduceLE,Int.reduceNeg,Int.reduceToNat,reduceCtorEq,Nat.reduceBEq,Nat.reduceBNe,Qk,Qe,Value.cells,am,mm,keep, f_, fo_, aint, zR, hrz, hra, hw0, hw1, bd, hbd, hov, h30]
      try (refine hK_ _ _ ?_; clear hK_ K_; repeat first | refine QL ?_ | refine QM ?_)
      repeat first | refine Qo ?_ | refine Qn ?_
      refine awp_if true rfl (by simp only [aeval_tmp, look, ↓reduceIte, Nat.reduceEqDiff]; try rfl) (fun _ => ?_) (fun h => absurd h (by decide))
      iterate 1 ((repeat first | refine Qo ?_ | refine Qn ?_); (first | (refine QK (by kernel_rfl) ?_; intro K_ hK_; simp -implicitDefEqProofs (disch := (try simp only [sl]); try omega) only [sm,QJ,Qj,Qi,Qq,QC,bd,look,aput,Qm,ty,↓reduceIte,Nat.reduceEqDiff,Nat.reduceAdd,Nat.reduceSub,Nat.reduceMul,Int.reduceLT,Int.reduceLE,Int.reduceNeg,Int.reduceToNat,reduceCtorEq,Nat.reduceBEq,Nat.reduceBNe,Qk,Qe,Value.cells,am,mm,keep, f_, fo_, aint, zR, hrz, hra, hw0, hw1, bd, hbd, hov, h30]; refine hK_ _ _ ?_; clear hK_ K_; repeat first | refine QL ?_ | refine QM ?_)))
      first | refine awp_ret ?_ | skip
      show ∃ v, aresults Tryd.prog Tryd.f80 _ _ = some v ∧ _
      rw [aresults_2 (r := .cell 2 82) (s := .tmp 3) (by kernel_rfl)]
      simp -implicitDefEqProofs (disch := (try simp only [sl]); try omega) only [aresult, Option.some.injEq, exists_eq_left', sm,Qj,Qi,Qq,QC,Qz,bd,QF,look,aput,QB,Qf,QA,ty,↓reduceIte,Nat.reduceEqDiff,Nat.reduceAdd,Nat.reduceSub,Nat.reduceMul,Int.reduceLT,Int.reduceLE,Int.reduceNeg,Int.reduceToNat,reduceCtorEq,Nat.reduceBEq,Nat.reduceBNe,Qk,Qe,Value.cells,am,mm,keep, f_, fo_, aint, zR, hrz, hra, hw0, hw1, bd, hbd, hov, h30]
      rw [pzP, pzQ, pzD, pzE, if_neg hok, if_neg hok, if_neg hok, if_neg hok]
      exact ⟨rfl, N_.ext.set _ (by omega)⟩
  · have hb : ((b.length : Int) != 37) = true := by rw [bne_iff_ne]; omega
    iterate 1 ((repeat first | refine Qo ?_ | refine Qn ?_); (first | (refine QK (by kernel_rfl) ?_; intro K_ hK_; simp -implicitDefEqProofs (disch := (try simp only [sl]); try omega) only [sm,QJ,Qj,Qi,Qq,QC,bd,look,aput,QI,abin,anil,ty,↓reduceIte,Nat.reduceEqDiff,Nat.reduceAdd,Nat.reduceSub,Nat.reduceMul,Int.reduceLT,Int.reduceLE,Int.reduceNeg,Int.reduceToNat,reduceCtorEq,Nat.reduceBEq,Nat.reduceBNe,Qk,Qe,Value.cells,am,mm,keep, f_, fo_, aint, lv, zR, hrz, hra, hb]; refine hK_ _ _ ?_; clear hK_ K_; repeat first | refine QL ?_ | refine QM ?_)))
    repeat first | refine Qo ?_ | refine Qn ?_
    refine awp_if true rfl (by simp only [aeval_tmp, look, ↓reduceIte, Nat.reduceEqDiff]; try rfl) (fun _ => ?_) (fun h => absurd h (by decide))
    iterate 1 ((repeat first | refine Qo ?_ | refine Qn ?_); (first | (refine QK (by kernel_rfl) ?_; intro K_ hK_; simp -implicitDefEqProofs (disch := (try simp only [sl]); try omega) only [sm,QJ,Qj,Qi,Qq,QC,bd,look,aput,Qm,ty,↓reduceIte,Nat.reduceEqDiff,Nat.reduceAdd,Nat.reduceSub,Nat.reduceMul,Int.reduceLT,Int.reduceLE,Int.reduceNeg,Int.reduceToNat,reduceCtorEq,Nat.reduceBEq,Nat.reduceBNe,Qk,Qe,Value.cells,am,mm,keep, f_, fo_, aint, lv, zR, hrz, hra, bd]; refine hK_ _ _ ?_; clear hK_ K_; repeat first | refine QL ?_ | refine QM ?_)))
    first | refine awp_ret ?_ | skip
    show ∃ v, aresults Tryd.prog Tryd.f80 _ _ = some v ∧ _
    rw [aresults_2 (r := .cell 2 82) (s := .tmp 3) (by kernel_rfl)]
    simp -implicitDefEqProofs (disch := (try simp only [sl]); try omega) only [aresult, Option.some.injEq, exists_eq_left', sm,Qj,Qi,Qq,QC,Qz,bd,QF,look,aput,QB,Qf,QA,ty,↓reduceIte,Nat.reduceEqDiff,Nat.reduceAdd,Nat.reduceSub,Nat.reduceMul,Int.reduceLT,Int.reduceLE,Int.reduceNeg,Int.reduceToNat,reduceCtorEq,Nat.reduceBEq,Nat.reduceBNe,Qk,Qe,Value.cells,am,mm,keep, f_, fo_, aint, lv, zR, hrz, hra]
    have hn : ¬ okP b := fun h => hl h.1
    rw [pzP, pzQ, pzD, pzE, if_neg hn, if_neg hn, if_neg hn, if_neg hn]
    exact ⟨rfl, N_.ext.set _ (by omega)⟩
end Go.Proofs.YtfhbieimffjjkaaDoor
