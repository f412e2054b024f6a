/- anchor: what the document says of Parse. -/
import Derived.Test.YtfhbieimffjjkaaDoorAh7
namespace Go.Proofs.YtfhbieimffjjkaaDoor
open Go Go.RowKit
--hide
set_option linter.unusedSimpArgs false
set_option linter.unusedVariables false
set_option maxRecDepth 4000
theorem ac_seth (v pg : Int) (ep : UInt32) (hp rp : Int) (re : UInt32) (hd rt : List UInt8) (cm : UInt64) (hh : hd.length = 32) (i : Nat) (hi : i < 32) (x : UInt8) : (ac ⟨v, pg, ep, hp, hd, rp, re, rt, cm⟩).set (4 + i) (.int .u8 (x.toNat : Int)) = ac ⟨v, pg, ep, hp, hd.set i x, rp, re, rt, cm⟩ := by
  simp only [ac]
  rw [List.set_append_right _ _ (by simp), show 4 + i - [Value.int .i64 v, Value.int .i64 pg, U32 ep, Value.int .i64 hp].length = i from Nat.add_sub_cancel_left 4 i, List.set_append_left _ _ (by rw [List.length_map, hh]; exact hi), ms8]
theorem ac_setr (v pg : Int) (ep : UInt32) (hp rp : Int) (re : UInt32) (hd rt : List UInt8) (cm : UInt64) (hh : hd.length = 32) (hr : rt.length = 32) (i : Nat) (hi : i < 32) (x : UInt8) : (ac ⟨v, pg, ep, hp, hd, rp, re, rt, cm⟩).set (38 + i) (.int .u8 (x.toNat : Int)) = ac ⟨v, pg, ep, hp, hd, rp, re, rt.set i x, cm⟩ := by
  simp only [ac]
  rw [← List.append_assoc, ← List.append_assoc, List.set_append_right _ _ (by simp [hh]), show 38 + i - (([Value.int .i64 v, Value.int .i64 pg, U32 ep, Value.int .i64 hp] ++ hd.map U8) ++ [Value.int .i64 rp, U32 re]).length = i by simp [hh], List.set_append_left _ _ (by rw [List.length_map, hr]; exact hi), ms8]
  simp only [List.append_assoc]
theorem leN_1 (b : List UInt8) (i : Nat) (h : i < b.length) : (((b.getD i 0).toNat : Nat) : Int) = ((leN ((b.drop i).take 1)).toNat : Int) := by
  rw [leN_toNat _ (by rw [List.length_take]; omega), ← drop_getD b i h, List.take_succ_cons, List.take_zero, leNat, leNat]; rfl
theorem fillL_self {α : Type} (b z : List α) (d : α) (n : Nat) (hb : b.length = n) (hz : z.length = n) : fillL (fun j => b.getD j d) z n = b := by
  rw [fillL_all _ _ n hz]
  apply List.ext_getElem (by rw [List.length_map, List.length_range, hb])
  intro i h1 h2
  rw [List.getElem_map, List.getElem_range, List.getD_eq_getElem?_getD, List.getElem?_eq_getElem h2]
  rfl
theorem fillL_take {α : Type} (b z : List α) (d : α) (n : Nat) (hb : n ≤ b.length) (hz : z.length = n) : fillL (fun j => b.getD j d) z n = b.take n := by
  rw [fillL_all _ _ n hz]
  apply List.ext_getElem (by rw [List.length_map, List.length_range, List.length_take]; omega)
  intro i h1 h2
  rw [List.length_map, List.length_range] at h1
  rw [List.getElem_map, List.getElem_range, List.getD_eq_getElem?_getD, List.getElem?_eq_getElem (by omega), List.getElem_take]
  rfl
theorem getD_drop (b : List UInt8) (k i : Nat) : b.getD (k + i) 0 = (b.drop k).getD i 0 := by
  simp only [List.getD_eq_getElem?_getD, List.getElem?_drop]
theorem But.cells {g q : Nat} {H H' : AH} {cs : List Value} (h : But g H H') (hq : q ≠ g) (hc : H.cells q = some cs) : H'.cells q = some cs := by
  rcases AH.cells_cases hc with k | k
  · exact AH.cells_own (h _ _ hq k)
  · exact AH.cells_ro (h _ _ hq k)
set_option maxHeartbeats 8000000 in
theorem refaparse_calls (v : Value) (b : List UInt8) (H : AH) (hv : SL H v (b.map U8)) (hl1 : b.length ≤ 1000) :
    ACalls Tryd.prog 44 #[v] H fun w H' => w = .tuple #[.agg (ac (parA b)).toArray, .int .i64 (parE b)] ∧ Ext H H' := by
  have lv := alen_sl (P := Tryd.prog) (T := 22) (by simp only [ty]) hv
  rw [List.length_map] at lv
  have hzl := ac_length zero_wf
  have hac := ac_cellv
  have ovz := ac_ovr zero_wf zero_wf
  have fo_ : True := trivial
  have N_ := Now.start H
  have f_ := N_.has
  simp only [Has] at f_
  refine acalls_of_body Tryd.func44 rfl Tryd.ntmps44 (by simp) ?_
  simp only [argsT, Nat.reduceAdd]
  iterate 1 ((repeat first | refine Qo ?_ | refine Qn ?_); (first | (refine QK (by kernel_rfl) ?_; intro K_ hK_; simp -implicitDefEqProofs (disch := (try simp only [sl]); try omega) only [sm,QJ,Qj,Qi,Qq,QC,bd,look,aput,ty,↓reduceIte,Nat.reduceEqDiff,Nat.reduceAdd,Nat.reduceSub,Nat.reduceMul,Int.reduceLT,Int.reduceLE,Int.reduceNeg,Int.reduceToNat,reduceCtorEq,Nat.reduceBEq,Nat.reduceBNe,Qk,Qe,Value.cells,am,mm,keep, f_, fo_, aint, lv, zAr, hzl, hac, ovz]; refine hK_ _ _ ?_; clear hK_ K_; repeat first | refine QL ?_ | refine QM ?_)))
  first | refine AWp.snap8 N_ ?_ | refine AWp.snap7 N_ ?_ | refine AWp.snap6 N_ ?_ | refine AWp.snap5 N_ ?_ | refine AWp.snap4 N_ ?_ | refine AWp.snap3 N_ ?_ | refine AWp.snap2 N_ ?_ | refine AWp.snap1 N_ ?_
  clear fo_; have fo_ := f_; clear f_ N_; intro H1 xH1 lH1 N_
  have f_ := N_.has
  simp only [Has] at f_
  by_cases hl : b.length = 128
  · have hb : ¬ ((b.length : Int) < 128) := by omega
    have hb2 : ¬ ((b.length : Int) > 128) := by omega
    obtain ⟨gv, ov, ev, cv, rfl, hcv, hgv, hlv, hkv, hkv0⟩ := hv.bytes (by omega)
    have hv1 := hv.mono xH1
    have s1 := hv1.subm 1 2 (if ev = 1 then ev else 0) (by omega)
    have s3 := hv1.subm 3 4 (if ev = 1 then ev else 0) (by omega)
    have s41 := hv1.subm 41 4 (if ev = 1 then ev else 0) (by omega)
    have s77 := hv1.subm 77 8 (if ev = 1 then ev else 0) (by omega)
    have hcv1 := xH1.cells hcv
    have k7 := hkv 7 (by omega)
    have k40 := hkv 40 (by omega)
    rw [leN_1 b _ (by omega)] at hkv0 k7 k40
    obtain ⟨p0, hp0⟩ : ∃ x, leN ((b.drop 0).take 1) = x := ⟨_, rfl⟩
    obtain ⟨p1, hp1⟩ : ∃ x, leN ((b.drop 1).take 2) = x := ⟨_, rfl⟩
    obtain ⟨p2, hp2⟩ : ∃ x, leN ((b.drop 3).take 4) = x := ⟨_, rfl⟩
    obtain ⟨p3, hp3⟩ : ∃ x, leN ((b.drop 7).take 1) = x := ⟨_, rfl⟩
    obtain ⟨p4, hp4⟩ : ∃ x, (b.drop 8).take 32 = x := ⟨_, rfl⟩
    obtain ⟨p5, hp5⟩ : ∃ x, leN ((b.drop 40).take 1) = x := ⟨_, rfl⟩
    obtain ⟨p6, hp6⟩ : ∃ x, leN ((b.drop 41).take 4) = x := ⟨_, rfl⟩
    obtain ⟨p7, hp7⟩ : ∃ x, (b.drop 45).take 32 = x := ⟨_, rfl⟩
    obtain ⟨p8, hp8⟩ : ∃ x, leN ((b.drop 77).take 8) = x := ⟨_, rfl⟩
    have hof : An.of b = ⟨(p0.toNat : Int), (p1.toNat : Int), p2.toUInt32, (p3.toNat : Int), p4, (p5.toNat : Int), p6.toUInt32, p7, p8⟩ := by rw [An.of, hp0, hp1, hp2, hp3, hp4, hp5, hp6, hp7, hp8]
    have wf := of_wf hl
    have hwf := wf
    rw [hof] at hwf
    rw [hp0] at hkv0
    rw [hp3] at k7
    rw [hp5] at k40
    have w4 : p4.length = 32 := hwf.1
    have w7 : p7.length = 32 := hwf.2.1
    have c0 : IntKind.i64.wrap (p0.toNat : Int) = p0.toNat := hwf.2.2.1.wi
    have c1 : IntKind.i64.wrap (p1.toNat : Int) = p1.toNat := hwf.2.2.2.1.wi
    have c3 : IntKind.i64.wrap (p3.toNat : Int) = p3.toNat := hwf.2.2.2.2.1.wi
    have c5 : IntKind.i64.wrap (p5.toNat : Int) = p5.toNat := hwf.2.2.2.2.2.wi
    have hz32 := zb_length 32
    have lA : ∀ (v pg hp rp : Int) (ep re : UInt32) (hd rt : List UInt8) (cm : UInt64), hd.length = 32 → rt.length = 32 → (ac ⟨v, pg, ep, hp, hd, rp, re, rt, cm⟩).length = 71 := fun _ _ _ _ _ _ _ _ _ h h' => by simp only [ac, List.length_append, List.length_map, h, h']; rfl
    have hbd : ∀ (v pg : Int) (ep : UInt32) (hp rp : Int) (re : UInt32) (cm : UInt64), Value.int .i64 v :: Value.int .i64 pg :: Value.int .u32 (ep.toNat : Int) :: Value.int .i64 hp :: (List.replicate 32 (Value.int .u8 0) ++ (Value.int .i64 rp :: Value.int .u32 (re.toNat : Int) :: (List.replicate 32 (Value.int .u8 0) ++ [U64 cm]))) = ac ⟨v, pg, ep, hp, zb 32, rp, re, zb 32, cm⟩ := fun _ _ _ _ _ _ _ => rfl
    simp only [List.replicate, List.cons_append, List.nil_append] at hbd
    iterate 1 ((repeat first | refine Qo ?_ | refine Qn ?_); (first | (refine QK (by kernel_rfl) ?_; intro K_ hK_; simp -implicitDefEqProofs (disch := (try simp only [sl]); try omega) only [sm,QJ,Qj,Qi,Qq,QC,bd,look,aput,QI,abin,anil,ty,↓reduceIte,Nat.reduceEqDiff,Nat.reduceAdd,Nat.reduceSub,Nat.reduceMul,Int.reduceLT,Int.reduceLE,Int.reduceNeg,Int.reduceToNat,reduceCtorEq,Nat.reduceBEq,Nat.reduceBNe,Qk,Qe,Value.cells,am,mm,keep, f_, fo_, aint, lv, zAr, hzl, hac, ovz, hb]; refine hK_ _ _ ?_; clear hK_ K_; repeat first | refine QL ?_ | refine QM ?_)))
    repeat first | refine Qo ?_ | refine Qn ?_
    refine awp_if false rfl (by simp only [aeval_tmp, look, ↓reduceIte, Nat.reduceEqDiff]; try rfl) (fun h => absurd h (by decide)) (fun _ => ?_)
    iterate 2 ((repeat first | refine Qo ?_ | refine Qn ?_); (first | (refine QK (by kernel_rfl) ?_; intro K_ hK_; simp -implicitDefEqProofs (disch := (try simp only [sl]); try omega) only [sm,QJ,Qj,Qi,Qq,QC,bd,look,aput,QI,abin,anil,ty,↓reduceIte,Nat.reduceEqDiff,Nat.reduceAdd,Nat.reduceSub,Nat.reduceMul,Int.reduceLT,Int.reduceLE,Int.reduceNeg,Int.reduceToNat,reduceCtorEq,Nat.reduceBEq,Nat.reduceBNe,Qk,Qe,Value.cells,am,mm,keep, f_, fo_, aint, lv, zAr, hzl, hac, ovz, hb2]; refine hK_ _ _ ?_; clear hK_ K_; repeat first | refine QL ?_ | refine QM ?_) | (refine awp_skip ?_; repeat first | refine QL ?_ | refine QM ?_)))
    repeat first | refine Qo ?_ | refine Qn ?_
    refine awp_if false rfl (by simp only [aeval_tmp, look, ↓reduceIte, Nat.reduceEqDiff]; try rfl) (fun h => absurd h (by decide)) (fun _ => ?_)
    iterate 1 ((repeat first | refine Qo ?_ | refine Qn ?_); (first | (refine awp_region_drawK (id := 5) [(0, []), (1, []), (2, []), (3, []), (4, []), (5, []), (8, []), (9, []), (12, []), (13, []), (14, []), (15, []), (16, []), (17, []), (18, []), (19, []), (20, []), (21, []), (24, []), (25, []), (28, []), (6, [2, 3, 14, 15, 18, 19]), (7, []), (10, [2, 3, 14, 15, 18, 19, 7]), (11, []), (22, [2, 3, 14, 15, 18, 19, 7, 11]), (23, []), (26, [2, 3, 14, 15, 18, 19, 7, 11, 23]), (27, []), (29, [])] mixed (by kernel_rfl) ?_; intro K_ hK_; simp -implicitDefEqProofs (disch := (try simp only [sl]); try omega) only [sm,aSel,Qu,Qv,Qw,Qx,Qy,Qj,Qi,Qq,QC,Qz,bd,QF,look,aput,Qm,QH,Qg,Qb,QA,Qr,loN,hiN,ty,↓reduceIte,Nat.reduceEqDiff,Nat.reduceAdd,Nat.reduceSub,Nat.reduceMul,Int.reduceLT,Int.reduceLE,Int.reduceNeg,Int.reduceToNat,reduceCtorEq,Nat.reduceBEq,Nat.reduceBNe,Qk,Qe,Value.cells,am,mm,keep, f_, fo_, aint, lv, zAr, hzl, hac, hcv1, hkv0, k7, k40, hl, c0, c1, c3, c5]; refine hK_ _ _ ?_; clear hK_ K_; repeat first | refine QL ?_ | refine QM ?_) | (refine awp_skip ?_; repeat first | refine QL ?_ | refine QM ?_)))
    (repeat first | refine Qo ?_ | refine Qn ?_); refine awp_region_drawK (id := 5) [(0, []), (1, []), (2, []), (3, []), (4, []), (5, []), (8, []), (9, []), (12, []), (13, []), (14, []), (15, []), (16, []), (17, []), (18, []), (19, []), (20, []), (21, []), (24, []), (25, []), (28, []), (6, [2, 3, 14, 15, 18, 19]), (7, []), (10, [2, 3, 14, 15, 18, 19, 7]), (11, []), (22, [2, 3, 14, 15, 18, 19, 7, 11]), (23, []), (26, [2, 3, 14, 15, 18, 19, 7, 11, 23]), (27, []), (29, [])] mixed (by kernel_rfl) ?_; intro K_ hK_; simp -implicitDefEqProofs (disch := (try simp only [sl]); try omega) only [sm,aSel,Qu,Qv,Qw,Qx,Qy,Qj,Qi,Qq,QC,Qz,bd,QF,look,aput,Qm,QH,Qg,Qb,QA,Qr,loN,hiN,ty,↓reduceIte,Nat.reduceEqDiff,Nat.reduceAdd,Nat.reduceSub,Nat.reduceMul,Int.reduceLT,Int.reduceLE,Int.reduceNeg,Int.reduceToNat,reduceCtorEq,Nat.reduceBEq,Nat.reduceBNe,Qk,Qe,Value.cells,am,mm,keep, f_, fo_, aint, lv, zAr, hzl, hac, hcv1, hkv0, k7, k40, hl, c0, c1, c3, c5]
    first | refine ACalls.snap8 N_ ?_ | refine ACalls.snap7 N_ ?_ | refine ACalls.snap6 N_ ?_ | refine ACalls.snap5 N_ ?_ | refine ACalls.snap4 N_ ?_ | refine ACalls.snap3 N_ ?_ | refine ACalls.snap2 N_ ?_ | refine ACalls.snap1 N_ ?_
    clear fo_; have fo_ := f_; clear f_ N_; intro H2 xH2 lH2 N_
    have f_ := N_.has
    simp only [Has] at f_
    have s1 := s1.mono xH2
    have s3 := s3.mono xH2
    have s41 := s41.mono xH2
    have s77 := s77.mono xH2
    have hcv2 := xH2.cells hcv1
    refine ACalls.mono (refnum_calls _ _ H2 s1 (by rw [tk_len _ _ _ (by omega)]; decide)) ?_
    rintro _ _ ⟨rfl, hHH⟩
    rw [hHH]
    clear hHH
    simp -implicitDefEqProofs (disch := (try simp only [sl]); try omega) only [sm,aSel,Qu,Qv,Qw,Qx,Qy,Qj,Qi,Qq,QC,Qz,bd,QF,look,aput,Qm,QH,Qg,Qb,QA,Qr,loN,hiN,ty,↓reduceIte,Nat.reduceEqDiff,Nat.reduceAdd,Nat.reduceSub,Nat.reduceMul,Int.reduceLT,Int.reduceLE,Int.reduceNeg,Int.reduceToNat,reduceCtorEq,Nat.reduceBEq,Nat.reduceBNe,Qk,Qe,Value.cells,am,mm,keep, f_, fo_, aint, lv, zAr, hzl, hac, hcv1, hcv2, hkv0, k7, k40, hl, c0, c1, c3, c5]
    try (refine hK_ _ _ ?_; clear hK_ K_; repeat first | refine QL ?_ | refine QM ?_)
    rw [hp1]
    try simp -implicitDefEqProofs (disch := (try simp only [sl]); try omega) only [sm,aSel,Qu,Qv,Qw,Qx,Qy,Qj,Qi,Qq,QC,Qz,bd,QF,look,aput,Qm,QH,Qg,Qb,QA,Qr,loN,hiN,ty,↓reduceIte,Nat.reduceEqDiff,Nat.reduceAdd,Nat.reduceSub,Nat.reduceMul,Int.reduceLT,Int.reduceLE,Int.reduceNeg,Int.reduceToNat,reduceCtorEq,Nat.reduceBEq,Nat.reduceBNe,Qk,Qe,Value.cells,am,mm,keep, f_, fo_, aint, lv, zAr, hzl, hac, hcv1, hcv2, hkv0, k7, k40, hl, c0, c1, c3, c5]
    try (refine hK_ _ _ ?_; clear hK_ K_; repeat first | refine QL ?_ | refine QM ?_)
    refine ACalls.mono (refnum_calls _ _ H2 s3 (by rw [tk_len _ _ _ (by omega)]; decide)) ?_
    rintro _ _ ⟨rfl, hHH⟩
    rw [hHH]
    clear hHH
    simp -implicitDefEqProofs (disch := (try simp only [sl]); try omega) only [sm,aSel,Qu,Qv,Qw,Qx,Qy,Qj,Qi,Qq,QC,Qz,bd,QF,look,aput,Qm,QH,Qg,Qb,QA,Qr,loN,hiN,ty,↓reduceIte,Nat.reduceEqDiff,Nat.reduceAdd,Nat.reduceSub,Nat.reduceMul,Int.reduceLT,Int.reduceLE,Int.reduceNeg,Int.reduceToNat,reduceCtorEq,Nat.reduceBEq,Nat.reduceBNe,Qk,Qe,Value.cells,am,mm,keep, f_, fo_, aint, lv, zAr, hzl, hac, hcv1, hcv2, hkv0, k7, k40, hl, c0, c1, c3, c5]
    try (refine hK_ _ _ ?_; clear hK_ K_; repeat first | refine QL ?_ | refine QM ?_)
    rw [hp2]
    try simp -implicitDefEqProofs (disch := (try simp only [sl]); try omega) only [sm,aSel,Qu,Qv,Qw,Qx,Qy,Qj,Qi,Qq,QC,Qz,bd,QF,look,aput,Qm,QH,Qg,Qb,QA,Qr,loN,hiN,ty,↓reduceIte,Nat.reduceEqDiff,Nat.reduceAdd,Nat.reduceSub,Nat.reduceMul,Int.reduceLT,Int.reduceLE,Int.reduceNeg,Int.reduceToNat,reduceCtorEq,Nat.reduceBEq,Nat.reduceBNe,Qk,Qe,Value.cells,am,mm,keep, f_, fo_, aint, lv, zAr, hzl, hac, hcv1, hcv2, hkv0, k7, k40, hl, c0, c1, c3, c5]
    try (refine hK_ _ _ ?_; clear hK_ K_; repeat first | refine QL ?_ | refine QM ?_)
    refine ACalls.mono (refnum_calls _ _ H2 s41 (by rw [tk_len _ _ _ (by omega)]; decide)) ?_
    rintro _ _ ⟨rfl, hHH⟩
    rw [hHH]
    clear hHH
    simp -implicitDefEqProofs (disch := (try simp only [sl]); try omega) only [sm,aSel,Qu,Qv,Qw,Qx,Qy,Qj,Qi,Qq,QC,Qz,bd,QF,look,aput,Qm,QH,Qg,Qb,QA,Qr,loN,hiN,ty,↓reduceIte,Nat.reduceEqDiff,Nat.reduceAdd,Nat.reduceSub,Nat.reduceMul,Int.reduceLT,Int.reduceLE,Int.reduceNeg,Int.reduceToNat,reduceCtorEq,Nat.reduceBEq,Nat.reduceBNe,Qk,Qe,Value.cells,am,mm,keep, f_, fo_, aint, lv, zAr, hzl, hac, hcv1, hcv2, hkv0, k7, k40, hl, c0, c1, c3, c5]
    try (refine hK_ _ _ ?_; clear hK_ K_; repeat first | refine QL ?_ | refine QM ?_)
    rw [hp6]
    try simp -implicitDefEqProofs (disch := (try simp only [sl]); try omega) only [sm,aSel,Qu,Qv,Qw,Qx,Qy,Qj,Qi,Qq,QC,Qz,bd,QF,look,aput,Qm,QH,Qg,Qb,QA,Qr,loN,hiN,ty,↓reduceIte,Nat.reduceEqDiff,Nat.reduceAdd,Nat.reduceSub,Nat.reduceMul,Int.reduceLT,Int.reduceLE,Int.reduceNeg,Int.reduceToNat,reduceCtorEq,Nat.reduceBEq,Nat.reduceBNe,Qk,Qe,Value.cells,am,mm,keep, f_, fo_, aint, lv, zAr, hzl, hac, hcv1, hcv2, hkv0, k7, k40, hl, c0, c1, c3, c5]
    try (refine hK_ _ _ ?_; clear hK_ K_; repeat first | refine QL ?_ | refine QM ?_)
    refine ACalls.mono (refnum_calls _ _ H2 s77 (by rw [tk_len _ _ _ (by omega)]; decide)) ?_
    rintro _ _ ⟨rfl, hHH⟩
    rw [hHH]
    clear hHH
    simp -implicitDefEqProofs (disch := (try simp only [sl]); try omega) only [sm,aSel,Qu,Qv,Qw,Qx,Qy,Qj,Qi,Qq,QC,Qz,bd,QF,look,aput,Qm,QH,Qg,Qb,QA,Qr,loN,hiN,ty,↓reduceIte,Nat.reduceEqDiff,Nat.reduceAdd,Nat.reduceSub,Nat.reduceMul,Int.reduceLT,Int.reduceLE,Int.reduceNeg,Int.reduceToNat,reduceCtorEq,Nat.reduceBEq,Nat.reduceBNe,Qk,Qe,Value.cells,am,mm,keep, f_, fo_, aint, lv, zAr, hzl, hac, hcv1, hcv2, hkv0, k7, k40, hl, c0, c1, c3, c5]
    try (refine hK_ _ _ ?_; clear hK_ K_; repeat first | refine QL ?_ | refine QM ?_)
    rw [hp8]
    have hov := ovr_all (ac An.zero) (ac ⟨(p0.toNat : Int), (p1.toNat : Int), p2.toUInt32, (p3.toNat : Int), zb 32, (p5.toNat : Int), p6.toUInt32, zb 32, p8⟩) (by rw [lA _ _ _ _ _ _ _ _ _ hz32 hz32, hzl])
    have l0 := lA (p0.toNat : Int) (p1.toNat : Int) (p3.toNat : Int) (p5.toNat : Int) p2.toUInt32 p6.toUInt32 (zb 32) (zb 32) p8 hz32 hz32
    try simp -implicitDefEqProofs (disch := (try simp only [sl]); try omega) only [sm,aSel,Qu,Qv,Qw,Qx,Qy,Qj,Qi,Qq,QC,Qz,bd,QF,look,aput,Qm,QH,Qg,Qb,QA,Qr,loN,hiN,ty,↓reduceIte,Nat.reduceEqDiff,Nat.reduceAdd,Nat.reduceSub,Nat.reduceMul,Int.reduceLT,Int.reduceLE,Int.reduceNeg,Int.reduceToNat,reduceCtorEq,Nat.reduceBEq,Nat.reduceBNe,Qk,Qe,Value.cells,am,mm,keep, f_, fo_, aint, lv, zAr, hzl, hac, hcv1, hcv2, hkv0, k7, k40, hl, c0, c1, c3, c5, bd, hbd, hov, l0]
    try (refine hK_ _ _ ?_; clear hK_ K_; repeat first | refine QL ?_ | refine QM ?_)
    refine AWp.snapset N_ (by omega) (by omega) ?_
    clear fo_; have fo_ := f_; clear f_ N_; intro H3 lH3 xH3 N_; simp (disch := omega) only [List.map_cons, List.map_nil, if_pos, if_neg, ↓reduceIte] at N_
    have f_ := N_.has
    simp only [Has] at f_
    iterate 1 ((repeat first | refine Qo ?_ | refine Qn ?_); (first | (refine QK (by kernel_rfl) ?_; intro K_ hK_; simp -implicitDefEqProofs (disch := (try simp only [sl]); try omega) only [sm,QJ,Qj,Qi,Qq,QC,bd,look,aput,ty,↓reduceIte,Nat.reduceEqDiff,Nat.reduceAdd,Nat.reduceSub,Nat.reduceMul,Int.reduceLT,Int.reduceLE,Int.reduceNeg,Int.reduceToNat,reduceCtorEq,Nat.reduceBEq,Nat.reduceBNe,Qk,Qe,Value.cells,am,mm,keep, f_, fo_, aint, lv, zAr, hzl, hac, hcv1, hcv2, hkv0, k7, k40, hl, c0, c1, c3, c5]; refine hK_ _ _ ?_; clear hK_ K_; repeat first | refine QL ?_ | refine QM ?_)))
    have hcv3 : H3.cells gv = some cv := (show But H1.length H2 H3 from xH3).cells (by omega) hcv2
    have qr := f_.2.1.2.1
    repeat first | refine Qo ?_ | refine Qn ?_
    refine awp_forK [0, 2, 4] (fun x : Nat × AH => [(5, I64 x.1)]) (fun x : Nat × AH => x.2) (fun x : Nat × AH => x.1 ≤ 32 ∧ x.2[H1.length]? = some (.own (ac ⟨(p0.toNat : Int), (p1.toNat : Int), p2.toUInt32, (p3.toNat : Int), fillL (fun j => (b.drop 8).getD j 0) (zb 32) x.1, (p5.toNat : Int), p6.toUInt32, fillL (fun j => (b.drop 45).getD j 0) (zb 32) x.1, p8⟩)) ∧ But H1.length H3 x.2 ∧ x.2.length = H3.length) (fun x : Nat × AH => 32 - x.1) ((0, H3)) (⟨by simp only []; omega, f_.1.2.1, But.refl _ _, rfl⟩) (by repeat first | exact Forgets.nil | refine Forgets.cons (by first | (simp only [look, ↓reduceIte, Nat.reduceEqDiff]; done) | (simp only [look, ↓reduceIte, Nat.reduceEqDiff]; rfl) | simp [look]) ?_) rfl ?_
    rintro ⟨i, H4⟩ ⟨hi, q4, b4, l4⟩
    simp only [] at hi q4 b4 l4 ⊢
    have c4 := AH.cells_own q4
    have g4 := got_lt q4
    have hcv4 : H4.cells gv = some cv := b4.cells (by omega) hcv3
    have wh := (fillL_length (fun j => (b.drop 8).getD j 0) (zb 32) i).trans hz32
    have wr := (fillL_length (fun j => (b.drop 45).getD j 0) (zb 32) i).trans hz32
    have l4' := lA (p0.toNat : Int) (p1.toNat : Int) (p3.toNat : Int) (p5.toNat : Int) p2.toUInt32 p6.toUInt32 _ _ p8 wh wr
    by_cases hi32 : i < 32
    · have kh := hkv (8 + i) (by omega)
      have kr := hkv (45 + i) (by omega)
      rw [getD_drop] at kh kr
      have sh := ac_seth (p0.toNat : Int) (p1.toNat : Int) p2.toUInt32 (p3.toNat : Int) (p5.toNat : Int) p6.toUInt32 (fillL (fun j => (b.drop 8).getD j 0) (zb 32) i) (fillL (fun j => (b.drop 45).getD j 0) (zb 32) i) p8 wh i hi32 ((b.drop 8).getD i 0)
      have wh2 : ((fillL (fun j => (b.drop 8).getD j 0) (zb 32) i).set i ((b.drop 8).getD i 0)).length = 32 := by rw [List.length_set]; exact wh
      have sr := ac_setr (p0.toNat : Int) (p1.toNat : Int) p2.toUInt32 (p3.toNat : Int) (p5.toNat : Int) p6.toUInt32 ((fillL (fun j => (b.drop 8).getD j 0) (zb 32) i).set i ((b.drop 8).getD i 0)) (fillL (fun j => (b.drop 45).getD j 0) (zb 32) i) p8 wh2 wr i hi32 ((b.drop 45).getD i 0)
      have l5' := lA (p0.toNat : Int) (p1.toNat : Int) (p3.toNat : Int) (p5.toNat : Int) p2.toUInt32 p6.toUInt32 _ _ p8 wh2 wr
      clear f_ N_ fo_
      iterate 1 ((repeat first | refine Qo ?_ | refine Qn ?_); (first | (refine QK (by kernel_rfl) ?_; intro K_ hK_; simp -implicitDefEqProofs (disch := (try simp only [sl]); try omega) only [sm,QJ,Qj,Qi,Qq,QC,bd,look,aput,QI,abin,anil,ty,↓reduceIte,Nat.reduceEqDiff,Nat.reduceAdd,Nat.reduceSub,Nat.reduceMul,Int.reduceLT,Int.reduceLE,Int.reduceNeg,Int.reduceToNat,reduceCtorEq,Nat.reduceBEq,Nat.reduceBNe,Qk,Qe,Value.cells,am,mm,keep, q4, c4, g4, hcv4, kh, kr, sh, sr, l4', l5', hl, hi32]; refine hK_ _ _ ?_; clear hK_ K_; repeat first | refine QL ?_ | refine QM ?_)))
      repeat first | refine Qo ?_ | refine Qn ?_
      refine awp_if true rfl (by simp only [aeval_tmp, look, ↓reduceIte, Nat.reduceEqDiff]; try rfl) (fun _ => ?_) (fun h => absurd h (by decide))
      iterate 3 ((repeat first | refine Qo ?_ | refine Qn ?_); (first | ((first | refine awp_region_drawK (id := 9) [(0, []), (1, []), (2, []), (3, []), (4, []), (5, []), (6, []), (7, []), (8, []), (9, []), (10, []), (11, []), (12, []), (13, []), (15, []), (14, [11]), (16, []), (17, [])] mixed (by kernel_rfl) ?_ | refine QK (by kernel_rfl) ?_); intro K_ hK_; simp -implicitDefEqProofs (disch := (try simp only [sl]); try omega) only [sm,QJ,aSel,Qu,Qv,Qw,Qx,Qy,Qj,Qi,Qq,QC,Qz,bd,QF,look,aput,Qm,QI,abin,anil,Qb,Qc,QA,ty,↓reduceIte,Nat.reduceEqDiff,Nat.reduceAdd,Nat.reduceSub,Nat.reduceMul,Int.reduceLT,Int.reduceLE,Int.reduceNeg,Int.reduceToNat,reduceCtorEq,Nat.reduceBEq,Nat.reduceBNe,Qk,Qe,Value.cells,am,mm,keep, q4, c4, g4, hcv4, kh, kr, sh, sr, l4', l5', hl, hi32]; refine hK_ _ _ ?_; clear hK_ K_; repeat first | refine QL ?_ | refine QM ?_) | (refine awp_skip ?_; repeat first | refine QL ?_ | refine QM ?_)))
      refine ⟨(i + 1, H4.set H1.length (.own (ac ⟨(p0.toNat : Int), (p1.toNat : Int), p2.toUInt32, (p3.toNat : Int), fillL (fun j => (b.drop 8).getD j 0) (zb 32) (i + 1), (p5.toNat : Int), p6.toUInt32, fillL (fun j => (b.drop 45).getD j 0) (zb 32) (i + 1), p8⟩))), ⟨by simp only []; omega, gset _ _ _ g4, b4.set _, by simp only []; rw [List.length_set]; exact l4⟩, (by repeat first | exact Forgets.nil | refine Forgets.cons (by first | (simp only [look, ↓reduceIte, Nat.reduceEqDiff]; done) | (simp only [look, ↓reduceIte, Nat.reduceEqDiff]; rfl) | simp [look]) ?_), ?_⟩
      first | omega | exact ⟨rfl, by omega⟩ | exact ⟨rfl, by simp only []; omega⟩ | (simp only []; omega)
    obtain rfl : i = 32 := by omega
    have hD : fillL (fun j => (b.drop 8).getD j 0) (zb 32) 32 = p4 := by rw [← hp4]; exact fillL_take _ _ _ _ (by rw [List.length_drop]; omega) hz32
    have hR : fillL (fun j => (b.drop 45).getD j 0) (zb 32) 32 = p7 := by rw [← hp7]; exact fillL_take _ _ _ _ (by rw [List.length_drop]; omega) hz32
    rw [hD, hR, ← hof] at q4 c4
    clear l4' wh wr
    have lo := ac_length wf
    have tko := ac_take wf
    have ovo := ac_ovr zero_wf wf
    have x4 : Ext H H4 := Ext.trans xH1 (fun p y hy => b4 p y (by have := got_lt hy; omega) (xH3 _ _ (by have := got_lt hy; omega) (xH2 _ _ hy)))
    have q0 : H4[H.length]? = some (.own (ac An.zero)) := b4 _ _ (by omega) qr
    clear f_ fo_ N_
    have N_ : Now H H4 [(H1.length, ac (An.of b)), (H.length, ac An.zero)] := ⟨x4, ⟨g4, q4, c4⟩, ⟨got_lt q0, q0, AH.cells_own q0⟩, trivial⟩
    have f_ := N_.has
    simp only [Has] at f_
    have fo_ := True.intro
    iterate 1 ((repeat first | refine Qo ?_ | refine Qn ?_); (first | (refine QK (by kernel_rfl) ?_; intro K_ hK_; simp -implicitDefEqProofs (disch := (try simp only [sl]); try omega) only [sm,QJ,Qj,Qi,Qq,QC,bd,look,aput,QI,abin,anil,ty,↓reduceIte,Nat.reduceEqDiff,Nat.reduceAdd,Nat.reduceSub,Nat.reduceMul,Int.reduceLT,Int.reduceLE,Int.reduceNeg,Int.reduceToNat,reduceCtorEq,Nat.reduceBEq,Nat.reduceBNe,Qk,Qe,Value.cells,am,mm,keep, f_, fo_, aint, lv, zAr, hzl, hac, lo, tko, ovo, ovz, hi32]; refine hK_ _ _ ?_; clear hK_ K_; repeat first | refine QL ?_ | refine QM ?_)))
    repeat first | refine Qo ?_ | refine Qn ?_
    refine awp_if false rfl (by simp only [aeval_tmp, look, ↓reduceIte, Nat.reduceEqDiff]; try rfl) (fun h => absurd h (by decide)) (fun _ => ?_)
    iterate 1 ((repeat first | refine Qo ?_ | refine Qn ?_); (first | (refine QK (by kernel_rfl) ?_; intro K_ hK_; simp -implicitDefEqProofs (disch := (try simp only [sl]); try omega) only [sm,QJ,Qj,Qi,Qq,QC,Qz,bd,QF,look,aput,Qm,QA,Qh,ty,↓reduceIte,Nat.reduceEqDiff,Nat.reduceAdd,Nat.reduceSub,Nat.reduceMul,Int.reduceLT,Int.reduceLE,Int.reduceNeg,Int.reduceToNat,reduceCtorEq,Nat.reduceBEq,Nat.reduceBNe,Qk,Qe,Value.cells,am,mm,keep, f_, fo_, aint, lv, zAr, hzl, hac, lo, tko, ovo, ovz]; refine hK_ _ _ ?_; clear hK_ K_; repeat first | refine QL ?_ | refine QM ?_) | (refine awp_exit ?_; (repeat first | refine aThen_exit ?_ | refine aIn_out rfl ?_); refine aIn_here ?_; repeat first | refine QL ?_ | refine QM ?_)))
    (repeat first | refine Qo ?_ | refine Qn ?_); refine QK (by kernel_rfl) ?_; intro K_ hK_; simp -implicitDefEqProofs (disch := (try simp only [sl]); try omega) only [sm,QJ,Qj,Qi,Qq,QC,Qz,bd,QF,look,aput,Qm,QA,Qh,ty,↓reduceIte,Nat.reduceEqDiff,Nat.reduceAdd,Nat.reduceSub,Nat.reduceMul,Int.reduceLT,Int.reduceLE,Int.reduceNeg,Int.reduceToNat,reduceCtorEq,Nat.reduceBEq,Nat.reduceBNe,Qk,Qe,Value.cells,am,mm,keep, f_, fo_, aint, lv, zAr, hzl, hac, lo, tko, ovo, ovz]
    refine ACalls.mono (refalay_calls (An.of b) H4 wf) ?_
    rintro _ H5 ⟨u, rfl, o5, e5⟩
    replace N_ := N_.grow e5
    clear fo_; have fo_ := f_; clear f_
    have f_ := N_.has
    simp only [Has] at f_
    have hcv5 := e5.cells hcv4
    try simp -implicitDefEqProofs (disch := (try simp only [sl]); try omega) only [sm,QJ,Qj,Qi,Qq,QC,Qz,bd,QF,look,aput,Qm,QA,Qh,ty,↓reduceIte,Nat.reduceEqDiff,Nat.reduceAdd,Nat.reduceSub,Nat.reduceMul,Int.reduceLT,Int.reduceLE,Int.reduceNeg,Int.reduceToNat,reduceCtorEq,Nat.reduceBEq,Nat.reduceBNe,Qk,Qe,Value.cells,am,mm,keep, f_, fo_, aint, lv, zAr, hzl, hac, lo, tko, ovo, ovz]
    try (refine hK_ _ _ ?_; clear hK_ K_; repeat first | refine QL ?_ | refine QM ?_)
    by_cases hm : (An.of b).may
    · have hE : layE (An.of b) = 0 := by rw [layE, if_pos hm]
      have hL : layA (An.of b) = (An.of b).bytes := by rw [layA, if_pos hm]
      have h00 : ((0 : Int) != 0) = false := rfl
      rw [hL] at o5
      iterate 1 ((repeat first | refine Qo ?_ | refine Qn ?_); (first | (refine QK (by kernel_rfl) ?_; intro K_ hK_; simp -implicitDefEqProofs (disch := (try simp only [sl]); try omega) only [sm,QJ,Qj,Qi,Qq,QC,bd,look,aput,QI,abin,anil,ty,↓reduceIte,Nat.reduceEqDiff,Nat.reduceAdd,Nat.reduceSub,Nat.reduceMul,Int.reduceLT,Int.reduceLE,Int.reduceNeg,Int.reduceToNat,reduceCtorEq,Nat.reduceBEq,Nat.reduceBNe,Qk,Qe,Value.cells,am,mm,keep, f_, fo_, aint, lv, zAr, hzl, hac, lo, tko, ovo, ovz, hE, h00]; refine hK_ _ _ ?_; clear hK_ K_; repeat first | refine QL ?_ | refine QM ?_)))
      repeat first | refine Qo ?_ | refine Qn ?_
      refine awp_if false rfl (by simp only [aeval_tmp, look, ↓reduceIte, Nat.reduceEqDiff]; try rfl) (fun h => absurd h (by decide)) (fun _ => ?_)
      iterate 2 ((repeat first | refine Qo ?_ | refine Qn ?_); (first | (refine QK (by kernel_rfl) ?_; intro K_ hK_; simp -implicitDefEqProofs (disch := (try simp only [sl]); try omega) only [sm,QJ,Qj,Qi,Qq,QC,bd,look,aput,ty,↓reduceIte,Nat.reduceEqDiff,Nat.reduceAdd,Nat.reduceSub,Nat.reduceMul,Int.reduceLT,Int.reduceLE,Int.reduceNeg,Int.reduceToNat,reduceCtorEq,Nat.reduceBEq,Nat.reduceBNe,Qk,Qe,Value.cells,am,mm,keep, f_, fo_, aint, lv, zAr, hzl, hac, lo, tko, ovo, ovz]; refine hK_ _ _ ?_; clear hK_ K_; repeat first | refine QL ?_ | refine QM ?_) | (refine awp_skip ?_; repeat first | refine QL ?_ | refine QM ?_)))
      have hbl := abytes_length wf
      repeat first | refine Qo ?_ | refine Qn ?_
      refine awp_forK [0, 2, 4, 6] (fun i : Nat => [(8, I64 i)]) (fun i : Nat => H5) (fun i : Nat => i ≤ 128 ∧ ∀ j, j < i → (An.of b).bytes.getD j 0 = b.getD j 0) (fun i : Nat => 128 - i) (0) (⟨Nat.zero_le _, fun j h => by omega⟩) (by repeat first | exact Forgets.nil | refine Forgets.cons (by first | (simp only [look, ↓reduceIte, Nat.reduceEqDiff]; done) | (simp only [look, ↓reduceIte, Nat.reduceEqDiff]; rfl) | simp [look]) ?_) rfl ?_
      rintro i ⟨hi, hz⟩
      by_cases hlt : i < 128
      · obtain ⟨gx, rfl, hgx, hbx, hgl⟩ := o5.at (by rw [List.length_map, hbl]; decide)
        have cx := AH.cells_own hgx
        have hxi := mg8 (An.of b).bytes i (by omega)
        have kv := hkv i (by omega)
        have lm : ((An.of b).bytes.map U8).length = 128 := by rw [List.length_map, hbl]
        by_cases hq : (An.of b).bytes.getD i 0 = b.getD i 0
        · have hne : ((((An.of b).bytes.getD i 0).toNat : Int) != ((b.getD i 0).toNat : Int)) = false := by rw [hq]; simp
          iterate 1 ((repeat first | refine Qo ?_ | refine Qn ?_); (first | (refine QK (by kernel_rfl) ?_; intro K_ hK_; simp -implicitDefEqProofs (disch := (try simp only [sl]); try omega) only [sm,QJ,Qj,Qi,Qq,QC,bd,look,aput,QI,abin,anil,ty,↓reduceIte,Nat.reduceEqDiff,Nat.reduceAdd,Nat.reduceSub,Nat.reduceMul,Int.reduceLT,Int.reduceLE,Int.reduceNeg,Int.reduceToNat,reduceCtorEq,Nat.reduceBEq,Nat.reduceBNe,Qk,Qe,Value.cells,am,mm,keep, f_, fo_, aint, lv, zAr, hzl, hac, lo, tko, ovo, ovz, hlt]; refine hK_ _ _ ?_; clear hK_ K_; repeat first | refine QL ?_ | refine QM ?_)))
          repeat first | refine Qo ?_ | refine Qn ?_
          refine awp_if true rfl (by simp only [aeval_tmp, look, ↓reduceIte, Nat.reduceEqDiff]; try rfl) (fun _ => ?_) (fun h => absurd h (by decide))
          iterate 2 ((repeat first | refine Qo ?_ | refine Qn ?_); (first | (refine awp_region_drawK (id := 16) [(0, []), (1, []), (2, []), (3, []), (4, []), (5, []), (6, []), (7, []), (8, [])] mixed (by kernel_rfl) ?_; intro K_ hK_; simp -implicitDefEqProofs (disch := (try simp only [sl]); try omega) only [sm,aSel,Qu,Qv,Qw,Qx,Qy,Qj,Qi,Qq,QC,Qz,bd,QF,look,aput,QI,abin,anil,Qb,QA,ty,↓reduceIte,Nat.reduceEqDiff,Nat.reduceAdd,Nat.reduceSub,Nat.reduceMul,Int.reduceLT,Int.reduceLE,Int.reduceNeg,Int.reduceToNat,reduceCtorEq,Nat.reduceBEq,Nat.reduceBNe,Qk,Qe,Value.cells,am,mm,keep, f_, fo_, aint, lv, zAr, hzl, hac, lo, tko, ovo, ovz, hlt, cx, hxi, hcv5, kv, hl, lm, hne]; refine hK_ _ _ ?_; clear hK_ K_; repeat first | refine QL ?_ | refine QM ?_) | (refine awp_skip ?_; repeat first | refine QL ?_ | refine QM ?_)))
          repeat first | refine Qo ?_ | refine Qn ?_
          refine awp_if false rfl (by simp only [aeval_tmp, look, ↓reduceIte, Nat.reduceEqDiff]; try rfl) (fun h => absurd h (by decide)) (fun _ => ?_)
          have hwi : IntKind.i64.wrap ((i : Int) + 1) = (i : Int) + 1 := wi64 _ (by omega) (by omega)
          iterate 2 ((repeat first | refine Qo ?_ | refine Qn ?_); (first | (refine QK (by kernel_rfl) ?_; intro K_ hK_; simp -implicitDefEqProofs (disch := (try simp only [sl]); try omega) only [sm,QJ,Qj,Qi,Qq,QC,bd,look,aput,QI,abin,anil,ty,↓reduceIte,Nat.reduceEqDiff,Nat.reduceAdd,Nat.reduceSub,Nat.reduceMul,Int.reduceLT,Int.reduceLE,Int.reduceNeg,Int.reduceToNat,reduceCtorEq,Nat.reduceBEq,Nat.reduceBNe,Qk,Qe,Value.cells,am,mm,keep, f_, fo_, aint, lv, zAr, hzl, hac, lo, tko, ovo, ovz, hlt, hwi]; refine hK_ _ _ ?_; clear hK_ K_; repeat first | refine QL ?_ | refine QM ?_) | (refine awp_skip ?_; repeat first | refine QL ?_ | refine QM ?_)))
          refine ⟨i + 1, ⟨by omega, fun j hj => by rcases Nat.lt_or_ge j i with h | h; exact hz j h; exact (show j = i by omega) ▸ hq⟩, (by repeat first | exact Forgets.nil | refine Forgets.cons (by first | (simp only [look, ↓reduceIte, Nat.reduceEqDiff]; done) | (simp only [look, ↓reduceIte, Nat.reduceEqDiff]; rfl) | simp [look, hwi]) ?_), ?_⟩
          first | omega | exact ⟨rfl, by omega⟩ | exact ⟨rfl, by simp only []; omega⟩ | (simp only []; omega)
        · have hne : ((((An.of b).bytes.getD i 0).toNat : Int) != ((b.getD i 0).toNat : Int)) = true := by
            rw [bne_iff_ne]; intro h; exact hq (UInt8.toNat_inj.1 (by omega))
          have hok : ¬ okA b := fun h => hq (by rw [bytes_of hl h.2.1])
          iterate 1 ((repeat first | refine Qo ?_ | refine Qn ?_); (first | (refine QK (by kernel_rfl) ?_; intro K_ hK_; simp -implicitDefEqProofs (disch := (try simp only [sl]); try omega) only [sm,QJ,Qj,Qi,Qq,QC,bd,look,aput,QI,abin,anil,ty,↓reduceIte,Nat.reduceEqDiff,Nat.reduceAdd,Nat.reduceSub,Nat.reduceMul,Int.reduceLT,Int.reduceLE,Int.reduceNeg,Int.reduceToNat,reduceCtorEq,Nat.reduceBEq,Nat.reduceBNe,Qk,Qe,Value.cells,am,mm,keep, f_, fo_, aint, lv, zAr, hzl, hac, lo, tko, ovo, ovz, hlt]; refine hK_ _ _ ?_; clear hK_ K_; repeat first | refine QL ?_ | refine QM ?_)))
          repeat first | refine Qo ?_ | refine Qn ?_
          refine awp_if true rfl (by simp only [aeval_tmp, look, ↓reduceIte, Nat.reduceEqDiff]; try rfl) (fun _ => ?_) (fun h => absurd h (by decide))
          iterate 2 ((repeat first | refine Qo ?_ | refine Qn ?_); (first | (refine awp_region_drawK (id := 16) [(0, []), (1, []), (2, []), (3, []), (4, []), (5, []), (6, []), (7, []), (8, [])] mixed (by kernel_rfl) ?_; intro K_ hK_; simp -implicitDefEqProofs (disch := (try simp only [sl]); try omega) only [sm,aSel,Qu,Qv,Qw,Qx,Qy,Qj,Qi,Qq,QC,Qz,bd,QF,look,aput,QI,abin,anil,Qb,QA,ty,↓reduceIte,Nat.reduceEqDiff,Nat.reduceAdd,Nat.reduceSub,Nat.reduceMul,Int.reduceLT,Int.reduceLE,Int.reduceNeg,Int.reduceToNat,reduceCtorEq,Nat.reduceBEq,Nat.reduceBNe,Qk,Qe,Value.cells,am,mm,keep, f_, fo_, aint, lv, zAr, hzl, hac, lo, tko, ovo, ovz, hlt, cx, hxi, hcv5, kv, hl, lm, hne]; refine hK_ _ _ ?_; clear hK_ K_; repeat first | refine QL ?_ | refine QM ?_) | (refine awp_skip ?_; repeat first | refine QL ?_ | refine QM ?_)))
          repeat first | refine Qo ?_ | refine Qn ?_
          refine awp_if true rfl (by simp only [aeval_tmp, look, ↓reduceIte, Nat.reduceEqDiff]; try rfl) (fun _ => ?_) (fun h => absurd h (by decide))
          iterate 1 ((repeat first | refine Qo ?_ | refine Qn ?_); (first | (refine QK (by kernel_rfl) ?_; intro K_ hK_; simp -implicitDefEqProofs (disch := (try simp only [sl]); try omega) only [sm,QJ,Qj,Qi,Qq,QC,bd,look,aput,Qm,ty,↓reduceIte,Nat.reduceEqDiff,Nat.reduceAdd,Nat.reduceSub,Nat.reduceMul,Int.reduceLT,Int.reduceLE,Int.reduceNeg,Int.reduceToNat,reduceCtorEq,Nat.reduceBEq,Nat.reduceBNe,Qk,Qe,Value.cells,am,mm,keep, f_, fo_, aint, lv, zAr, hzl, hac, lo, tko, ovo, ovz, bd, ovz]; refine hK_ _ _ ?_; clear hK_ K_; repeat first | refine QL ?_ | refine QM ?_)))
          first | refine awp_ret ?_ | skip
          show ∃ v, aresults Tryd.prog Tryd.f44 _ _ = some v ∧ _
          rw [aresults_2 (r := .cell 2 55) (s := .tmp 3) (by kernel_rfl)]
          simp -implicitDefEqProofs (disch := (try simp only [sl]); try omega) only [aresult, Option.some.injEq, exists_eq_left', sm,Qj,Qi,Qq,QC,Qz,bd,QF,look,aput,QB,Qf,QA,ty,↓reduceIte,Nat.reduceEqDiff,Nat.reduceAdd,Nat.reduceSub,Nat.reduceMul,Int.reduceLT,Int.reduceLE,Int.reduceNeg,Int.reduceToNat,reduceCtorEq,Nat.reduceBEq,Nat.reduceBNe,Qk,Qe,Value.cells,am,mm,keep, f_, fo_, aint, lv, zAr, hzl, hac, lo, tko, ovo, ovz]
          rw [parA, parE, if_neg hok, if_neg hok, if_neg (by omega)]
          exact ⟨rfl, N_.ext.set _ (by omega)⟩
      · obtain rfl : i = 128 := by omega
        have hbe : (An.of b).bytes = b := by
          apply List.ext_getElem (by rw [hbl, hl])
          intro j h1 h2
          have := hz j (by omega)
          rw [List.getD_eq_getElem?_getD, List.getD_eq_getElem?_getD, List.getElem?_eq_getElem h1, List.getElem?_eq_getElem h2] at this
          exact this
        have hok : okA b := ⟨hl, (bytes_of_iff hl).1 hbe, hm⟩
        iterate 1 ((repeat first | refine Qo ?_ | refine Qn ?_); (first | (refine QK (by kernel_rfl) ?_; intro K_ hK_; simp -implicitDefEqProofs (disch := (try simp only [sl]); try omega) only [sm,QJ,Qj,Qi,Qq,QC,bd,look,aput,QI,abin,anil,ty,↓reduceIte,Nat.reduceEqDiff,Nat.reduceAdd,Nat.reduceSub,Nat.reduceMul,Int.reduceLT,Int.reduceLE,Int.reduceNeg,Int.reduceToNat,reduceCtorEq,Nat.reduceBEq,Nat.reduceBNe,Qk,Qe,Value.cells,am,mm,keep, f_, fo_, aint, lv, zAr, hzl, hac, lo, tko, ovo, ovz, hlt]; refine hK_ _ _ ?_; clear hK_ K_; repeat first | refine QL ?_ | refine QM ?_)))
        repeat first | refine Qo ?_ | refine Qn ?_
        refine awp_if false rfl (by simp only [aeval_tmp, look, ↓reduceIte, Nat.reduceEqDiff]; try rfl) (fun h => absurd h (by decide)) (fun _ => ?_)
        iterate 2 ((repeat first | refine Qo ?_ | refine Qn ?_); (first | (refine QK (by kernel_rfl) ?_; intro K_ hK_; simp -implicitDefEqProofs (disch := (try simp only [sl]); try omega) only [sm,QJ,Qj,Qi,Qq,QC,Qz,bd,QF,look,aput,Qm,QA,ty,↓reduceIte,Nat.reduceEqDiff,Nat.reduceAdd,Nat.reduceSub,Nat.reduceMul,Int.reduceLT,Int.reduceLE,Int.reduceNeg,Int.reduceToNat,reduceCtorEq,Nat.reduceBEq,Nat.reduceBNe,Qk,Qe,Value.cells,am,mm,keep, f_, fo_, aint, lv, zAr, hzl, hac, lo, tko, ovo, ovz]; refine hK_ _ _ ?_; clear hK_ K_; repeat first | refine QL ?_ | refine QM ?_) | (refine awp_exit ?_; (repeat first | refine aThen_exit ?_ | refine aIn_out rfl ?_); refine aIn_here ?_; repeat first | refine QL ?_ | refine QM ?_)))
        first | refine awp_ret ?_ | skip
        show ∃ v, aresults Tryd.prog Tryd.f44 _ _ = some v ∧ _
        rw [aresults_2 (r := .cell 2 55) (s := .tmp 3) (by kernel_rfl)]
        simp -implicitDefEqProofs (disch := (try simp only [sl]); try omega) only [aresult, Option.some.injEq, exists_eq_left', sm,Qj,Qi,Qq,QC,Qz,bd,QF,look,aput,QB,Qf,QA,ty,↓reduceIte,Nat.reduceEqDiff,Nat.reduceAdd,Nat.reduceSub,Nat.reduceMul,Int.reduceLT,Int.reduceLE,Int.reduceNeg,Int.reduceToNat,reduceCtorEq,Nat.reduceBEq,Nat.reduceBNe,Qk,Qe,Value.cells,am,mm,keep, f_, fo_, aint, lv, zAr, hzl, hac, lo, tko, ovo, ovz]
        rw [parA, parE, if_pos hok, if_pos hok]
        exact ⟨rfl, N_.ext.set _ (by omega)⟩
    · have hE : layE (An.of b) = 1 := by rw [layE, if_neg hm]
      have hok : ¬ okA b := fun h => hm h.2.2
      have h10 : ((1 : Int) != 0) = true := rfl
      iterate 1 ((repeat first | refine Qo ?_ | refine Qn ?_); (first | (refine QK (by kernel_rfl) ?_; intro K_ hK_; simp -implicitDefEqProofs (disch := (try simp only [sl]); try omega) only [sm,QJ,Qj,Qi,Qq,QC,bd,look,aput,QI,abin,anil,ty,↓reduceIte,Nat.reduceEqDiff,Nat.reduceAdd,Nat.reduceSub,Nat.reduceMul,Int.reduceLT,Int.reduceLE,Int.reduceNeg,Int.reduceToNat,reduceCtorEq,Nat.reduceBEq,Nat.reduceBNe,Qk,Qe,Value.cells,am,mm,keep, f_, fo_, aint, lv, zAr, hzl, hac, lo, tko, ovo, ovz, hE, h10]; refine hK_ _ _ ?_; clear hK_ K_; repeat first | refine QL ?_ | refine QM ?_)))
      repeat first | refine Qo ?_ | refine Qn ?_
      refine awp_if true rfl (by simp only [aeval_tmp, look, ↓reduceIte, Nat.reduceEqDiff]; try rfl) (fun _ => ?_) (fun h => absurd h (by decide))
      iterate 1 ((repeat first | refine Qo ?_ | refine Qn ?_); (first | (refine QK (by kernel_rfl) ?_; intro K_ hK_; simp -implicitDefEqProofs (disch := (try simp only [sl]); try omega) only [sm,QJ,Qj,Qi,Qq,QC,bd,look,aput,Qm,ty,↓reduceIte,Nat.reduceEqDiff,Nat.reduceAdd,Nat.reduceSub,Nat.reduceMul,Int.reduceLT,Int.reduceLE,Int.reduceNeg,Int.reduceToNat,reduceCtorEq,Nat.reduceBEq,Nat.reduceBNe,Qk,Qe,Value.cells,am,mm,keep, f_, fo_, aint, lv, zAr, hzl, hac, lo, tko, ovo, ovz, bd, ovz]; refine hK_ _ _ ?_; clear hK_ K_; repeat first | refine QL ?_ | refine QM ?_)))
      first | refine awp_ret ?_ | skip
      show ∃ v, aresults Tryd.prog Tryd.f44 _ _ = some v ∧ _
      rw [aresults_2 (r := .cell 2 55) (s := .tmp 3) (by kernel_rfl)]
      simp -implicitDefEqProofs (disch := (try simp only [sl]); try omega) only [aresult, Option.some.injEq, exists_eq_left', sm,Qj,Qi,Qq,QC,Qz,bd,QF,look,aput,QB,Qf,QA,ty,↓reduceIte,Nat.reduceEqDiff,Nat.reduceAdd,Nat.reduceSub,Nat.reduceMul,Int.reduceLT,Int.reduceLE,Int.reduceNeg,Int.reduceToNat,reduceCtorEq,Nat.reduceBEq,Nat.reduceBNe,Qk,Qe,Value.cells,am,mm,keep, f_, fo_, aint, lv, zAr, hzl, hac, lo, tko, ovo, ovz]
      rw [parA, parE, if_neg hok, if_neg hok, if_neg (by omega)]
      exact ⟨rfl, N_.ext.set _ (by omega)⟩
  · have hok : ¬ okA b := fun h => hl h.1
    by_cases hlt : b.length < 128
    · have hb : (b.length : Int) < 128 := by omega
      iterate 1 ((repeat first | refine Qo ?_ | refine Qn ?_); (first | (refine QK (by kernel_rfl) ?_; intro K_ hK_; simp -implicitDefEqProofs (disch := (try simp only [sl]); try omega) only [sm,QJ,Qj,Qi,Qq,QC,bd,look,aput,QI,abin,anil,ty,↓reduceIte,Nat.reduceEqDiff,Nat.reduceAdd,Nat.reduceSub,Nat.reduceMul,Int.reduceLT,Int.reduceLE,Int.reduceNeg,Int.reduceToNat,reduceCtorEq,Nat.reduceBEq,Nat.reduceBNe,Qk,Qe,Value.cells,am,mm,keep, f_, fo_, aint, lv, zAr, hzl, hac, ovz, hb]; refine hK_ _ _ ?_; clear hK_ K_; repeat first | refine QL ?_ | refine QM ?_)))
      repeat first | refine Qo ?_ | refine Qn ?_
      refine awp_if true rfl (by simp only [aeval_tmp, look, ↓reduceIte, Nat.reduceEqDiff]; try rfl) (fun _ => ?_) (fun h => absurd h (by decide))
      iterate 1 ((repeat first | refine Qo ?_ | refine Qn ?_); (first | (refine QK (by kernel_rfl) ?_; intro K_ hK_; simp -implicitDefEqProofs (disch := (try simp only [sl]); try omega) only [sm,QJ,Qj,Qi,Qq,QC,bd,look,aput,Qm,ty,↓reduceIte,Nat.reduceEqDiff,Nat.reduceAdd,Nat.reduceSub,Nat.reduceMul,Int.reduceLT,Int.reduceLE,Int.reduceNeg,Int.reduceToNat,reduceCtorEq,Nat.reduceBEq,Nat.reduceBNe,Qk,Qe,Value.cells,am,mm,keep, f_, fo_, aint, lv, zAr, hzl, hac, ovz, bd]; refine hK_ _ _ ?_; clear hK_ K_; repeat first | refine QL ?_ | refine QM ?_)))
      first | refine awp_ret ?_ | skip
      show ∃ v, aresults Tryd.prog Tryd.f44 _ _ = some v ∧ _
      rw [aresults_2 (r := .cell 2 55) (s := .tmp 3) (by kernel_rfl)]
      simp -implicitDefEqProofs (disch := (try simp only [sl]); try omega) only [aresult, Option.some.injEq, exists_eq_left', sm,Qj,Qi,Qq,QC,Qz,bd,QF,look,aput,QB,Qf,QA,ty,↓reduceIte,Nat.reduceEqDiff,Nat.reduceAdd,Nat.reduceSub,Nat.reduceMul,Int.reduceLT,Int.reduceLE,Int.reduceNeg,Int.reduceToNat,reduceCtorEq,Nat.reduceBEq,Nat.reduceBNe,Qk,Qe,Value.cells,am,mm,keep, f_, fo_, aint, lv, zAr, hzl, hac, ovz]
      rw [parA, parE, if_neg hok, if_neg hok, if_pos hlt]
      exact ⟨rfl, N_.ext.set _ (by omega)⟩
    · have hb : ¬ (b.length : Int) < 128 := by omega
      have hb2 : (b.length : Int) > 128 := by omega
      iterate 1 ((repeat first | refine Qo ?_ | refine Qn ?_); (first | (refine QK (by kernel_rfl) ?_; intro K_ hK_; simp -implicitDefEqProofs (disch := (try simp only [sl]); try omega) only [sm,QJ,Qj,Qi,Qq,QC,bd,look,aput,QI,abin,anil,ty,↓reduceIte,Nat.reduceEqDiff,Nat.reduceAdd,Nat.reduceSub,Nat.reduceMul,Int.reduceLT,Int.reduceLE,Int.reduceNeg,Int.reduceToNat,reduceCtorEq,Nat.reduceBEq,Nat.reduceBNe,Qk,Qe,Value.cells,am,mm,keep, f_, fo_, aint, lv, zAr, hzl, hac, ovz, hb]; refine hK_ _ _ ?_; clear hK_ K_; repeat first | refine QL ?_ | refine QM ?_)))
      repeat first | refine Qo ?_ | refine Qn ?_
      refine awp_if false rfl (by simp only [aeval_tmp, look, ↓reduceIte, Nat.reduceEqDiff]; try rfl) (fun h => absurd h (by decide)) (fun _ => ?_)
      iterate 2 ((repeat first | refine Qo ?_ | refine Qn ?_); (first | (refine QK (by kernel_rfl) ?_; intro K_ hK_; simp -implicitDefEqProofs (disch := (try simp only [sl]); try omega) only [sm,QJ,Qj,Qi,Qq,QC,bd,look,aput,QI,abin,anil,ty,↓reduceIte,Nat.reduceEqDiff,Nat.reduceAdd,Nat.reduceSub,Nat.reduceMul,Int.reduceLT,Int.reduceLE,Int.reduceNeg,Int.reduceToNat,reduceCtorEq,Nat.reduceBEq,Nat.reduceBNe,Qk,Qe,Value.cells,am,mm,keep, f_, fo_, aint, lv, zAr, hzl, hac, ovz, hb2]; refine hK_ _ _ ?_; clear hK_ K_; repeat first | refine QL ?_ | refine QM ?_) | (refine awp_skip ?_; repeat first | refine QL ?_ | refine QM ?_)))
      repeat first | refine Qo ?_ | refine Qn ?_
      refine awp_if true rfl (by simp only [aeval_tmp, look, ↓reduceIte, Nat.reduceEqDiff]; try rfl) (fun _ => ?_) (fun h => absurd h (by decide))
      iterate 1 ((repeat first | refine Qo ?_ | refine Qn ?_); (first | (refine QK (by kernel_rfl) ?_; intro K_ hK_; simp -implicitDefEqProofs (disch := (try simp only [sl]); try omega) only [sm,QJ,Qj,Qi,Qq,QC,bd,look,aput,Qm,ty,↓reduceIte,Nat.reduceEqDiff,Nat.reduceAdd,Nat.reduceSub,Nat.reduceMul,Int.reduceLT,Int.reduceLE,Int.reduceNeg,Int.reduceToNat,reduceCtorEq,Nat.reduceBEq,Nat.reduceBNe,Qk,Qe,Value.cells,am,mm,keep, f_, fo_, aint, lv, zAr, hzl, hac, ovz, bd]; refine hK_ _ _ ?_; clear hK_ K_; repeat first | refine QL ?_ | refine QM ?_)))
      first | refine awp_ret ?_ | skip
      show ∃ v, aresults Tryd.prog Tryd.f44 _ _ = some v ∧ _
      rw [aresults_2 (r := .cell 2 55) (s := .tmp 3) (by kernel_rfl)]
      simp -implicitDefEqProofs (disch := (try simp only [sl]); try omega) only [aresult, Option.some.injEq, exists_eq_left', sm,Qj,Qi,Qq,QC,Qz,bd,QF,look,aput,QB,Qf,QA,ty,↓reduceIte,Nat.reduceEqDiff,Nat.reduceAdd,Nat.reduceSub,Nat.reduceMul,Int.reduceLT,Int.reduceLE,Int.reduceNeg,Int.reduceToNat,reduceCtorEq,Nat.reduceBEq,Nat.reduceBNe,Qk,Qe,Value.cells,am,mm,keep, f_, fo_, aint, lv, zAr, hzl, hac, ovz]
      rw [parA, parE, if_neg hok, if_neg hok, if_neg hlt]
      exact ⟨rfl, N_.ext.set _ (by omega)⟩
end Go.Proofs.YtfhbieimffjjkaaDoor
