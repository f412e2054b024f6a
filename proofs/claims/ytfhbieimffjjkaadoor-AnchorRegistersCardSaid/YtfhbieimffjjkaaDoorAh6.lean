/- anchor: Parse. -/
import Derived.Test.YtfhbieimffjjkaaDoorAh5
namespace Go.Proofs.YtfhbieimffjjkaaDoor
open Go Go.RowKit
--hide
set_option linter.unusedSimpArgs false
set_option linter.unusedVariables false
set_option maxRecDepth 4000
set_option maxHeartbeats 8000000 in
theorem aparse_calls (v : Value) (b : List UInt8) (H : AH) (hv : SL H v (b.map U8)) (hl1 : b.length ≤ 1000) :
    ACalls Tryd.prog 43 #[v] H fun w H' => w = .tuple #[.agg (ac (parA b)).toArray, .int .i64 (parE b)] ∧ Ext H H' := by
  have lv := alen_sl (P := Tryd.prog) (T := 22) (by simp only [ty]) hv
  rw [List.length_map] at lv
  have hzl := ac_length zero_wf
  have hac := ac_cellv
  have ovz := ac_ovr zero_wf zero_wf
  have hu1 : U64 255 = .int .u64 255 := rfl
  have hu2 : U64 65535 = .int .u64 65535 := rfl
  have hu4 : U64 4294967295 = .int .u64 4294967295 := rfl
  have hu8 : U64 18446744073709551615 = .int .u64 18446744073709551615 := rfl
  have h1 : sizedN 1 = 1 := rfl
  have h2 : sizedN 2 = 2 := rfl
  have h4 : sizedN 4 = 4 := rfl
  have h8 : sizedN 8 = 8 := rfl
  have fo_ : True := trivial
  have N_ := Now.start H
  have f_ := N_.has
  simp only [Has] at f_
  refine acalls_of_body Tryd.func43 rfl Tryd.ntmps43 (by simp) ?_
  simp only [argsT, Nat.reduceAdd]
  iterate 1 ((repeat first | refine Qo ?_ | refine Qn ?_); (first | (refine QK (by kernel_rfl) ?_; intro K_ hK_; simp -implicitDefEqProofs (disch := (try simp only [sl]); try omega) only [sm,QJ,Qj,Qi,Qq,QC,bd,look,aput,ty,↓reduceIte,Nat.reduceEqDiff,Nat.reduceAdd,Nat.reduceSub,Nat.reduceMul,Int.reduceLT,Int.reduceLE,Int.reduceNeg,Int.reduceToNat,reduceCtorEq,Nat.reduceBEq,Nat.reduceBNe,Qk,Qe,Value.cells,am,mm,keep, f_, fo_, aint, lv, zA, hzl, hac]; refine hK_ _ _ ?_; clear hK_ K_; repeat first | refine QL ?_ | refine QM ?_)))
  first | refine AWp.snap8 N_ ?_ | refine AWp.snap7 N_ ?_ | refine AWp.snap6 N_ ?_ | refine AWp.snap5 N_ ?_ | refine AWp.snap4 N_ ?_ | refine AWp.snap3 N_ ?_ | refine AWp.snap2 N_ ?_ | refine AWp.snap1 N_ ?_
  clear fo_; have fo_ := f_; clear f_ N_; intro H1 xH1 lH1 N_
  have f_ := N_.has
  simp only [Has] at f_
  by_cases hl : b.length = 128
  · have hb : ¬ ((b.length : Int) < 128) := by omega
    have hb2 : ¬ ((b.length : Int) > 128) := by omega
    iterate 1 ((repeat first | refine Qo ?_ | refine Qn ?_); (first | (refine QK (by kernel_rfl) ?_; intro K_ hK_; simp -implicitDefEqProofs (disch := (try simp only [sl]); try omega) only [sm,QJ,Qj,Qi,Qq,QC,bd,look,aput,QI,abin,anil,ty,↓reduceIte,Nat.reduceEqDiff,Nat.reduceAdd,Nat.reduceSub,Nat.reduceMul,Int.reduceLT,Int.reduceLE,Int.reduceNeg,Int.reduceToNat,reduceCtorEq,Nat.reduceBEq,Nat.reduceBNe,Qk,Qe,Value.cells,am,mm,keep, f_, fo_, aint, lv, zA, hzl, hac, hb]; refine hK_ _ _ ?_; clear hK_ K_; repeat first | refine QL ?_ | refine QM ?_)))
    repeat first | refine Qo ?_ | refine Qn ?_
    refine awp_if false rfl (by simp only [aeval_tmp, look, ↓reduceIte, Nat.reduceEqDiff]; try rfl) (fun h => absurd h (by decide)) (fun _ => ?_)
    iterate 1 ((repeat first | refine Qo ?_ | refine Qn ?_); (first | (refine QK (by kernel_rfl) ?_; intro K_ hK_; simp -implicitDefEqProofs (disch := (try simp only [sl]); try omega) only [sm,QJ,Qj,Qi,Qq,QC,bd,look,aput,QI,abin,anil,ty,↓reduceIte,Nat.reduceEqDiff,Nat.reduceAdd,Nat.reduceSub,Nat.reduceMul,Int.reduceLT,Int.reduceLE,Int.reduceNeg,Int.reduceToNat,reduceCtorEq,Nat.reduceBEq,Nat.reduceBNe,Qk,Qe,Value.cells,am,mm,keep, f_, fo_, aint, lv, zA, hzl, hac, hb2]; refine hK_ _ _ ?_; clear hK_ K_; repeat first | refine QL ?_ | refine QM ?_)))
    repeat first | refine Qo ?_ | refine Qn ?_
    refine awp_if false rfl (by simp only [aeval_tmp, look, ↓reduceIte, Nat.reduceEqDiff]; try rfl) (fun h => absurd h (by decide)) (fun _ => ?_)
    iterate 1 ((repeat first | refine Qo ?_ | refine Qn ?_); (first | (refine QK (by kernel_rfl) ?_; intro K_ hK_; simp -implicitDefEqProofs (disch := (try simp only [sl]); try omega) only [sm,QJ,Qj,Qi,Qq,QC,bd,look,aput,Qm,ty,↓reduceIte,Nat.reduceEqDiff,Nat.reduceAdd,Nat.reduceSub,Nat.reduceMul,Int.reduceLT,Int.reduceLE,Int.reduceNeg,Int.reduceToNat,reduceCtorEq,Nat.reduceBEq,Nat.reduceBNe,Qk,Qe,Value.cells,am,mm,keep, f_, fo_, aint, lv, zA, hzl, hac]; refine hK_ _ _ ?_; clear hK_ K_; repeat first | refine QL ?_ | refine QM ?_) | (refine awp_skip ?_; repeat first | refine QL ?_ | refine QM ?_)))
    (repeat first | refine Qo ?_ | refine Qn ?_); refine QK (by kernel_rfl) ?_; intro K_ hK_; simp -implicitDefEqProofs (disch := (try simp only [sl]); try omega) only [sm,QJ,Qj,Qi,Qq,QC,bd,look,aput,Qm,ty,↓reduceIte,Nat.reduceEqDiff,Nat.reduceAdd,Nat.reduceSub,Nat.reduceMul,Int.reduceLT,Int.reduceLE,Int.reduceNeg,Int.reduceToNat,reduceCtorEq,Nat.reduceBEq,Nat.reduceBNe,Qk,Qe,Value.cells,am,mm,keep, f_, fo_, aint, lv, zA, hzl, hac]
    refine ACalls.mono (rdread_calls _ b H1 (hv.mono xH1) H1.length ((hv.mono xH1).blk)) ?_
    rintro _ H2 ⟨g, rfl, hg, i2, e2⟩
    replace N_ := N_.grow e2
    clear fo_; have fo_ := f_; clear f_
    have f_ := N_.has
    simp only [Has] at f_
    try simp -implicitDefEqProofs (disch := (try simp only [sl]); try omega) only [sm,QJ,Qj,Qi,Qq,QC,bd,look,aput,Qm,ty,↓reduceIte,Nat.reduceEqDiff,Nat.reduceAdd,Nat.reduceSub,Nat.reduceMul,Int.reduceLT,Int.reduceLE,Int.reduceNeg,Int.reduceToNat,reduceCtorEq,Nat.reduceBEq,Nat.reduceBNe,Qk,Qe,Value.cells,am,mm,keep, f_, fo_, aint, lv, zA, hzl, hac]
    try (refine hK_ _ _ ?_; clear hK_ K_; repeat first | refine QL ?_ | refine QM ?_)
    iterate 1 ((repeat first | refine Qo ?_ | refine Qn ?_); (first | (refine QK (by kernel_rfl) ?_; intro K_ hK_; simp -implicitDefEqProofs (disch := (try simp only [sl]); try omega) only [sm,QJ,Qj,Qi,Qq,QC,Qz,bd,QF,look,aput,Qm,QH,Qg,ty,↓reduceIte,Nat.reduceEqDiff,Nat.reduceAdd,Nat.reduceSub,Nat.reduceMul,Int.reduceLT,Int.reduceLE,Int.reduceNeg,Int.reduceToNat,reduceCtorEq,Nat.reduceBEq,Nat.reduceBNe,Qk,Qe,Value.cells,am,mm,keep, f_, fo_, aint, lv, zA, hzl, hac]; refine hK_ _ _ ?_; clear hK_ K_; repeat first | refine QL ?_ | refine QM ?_)))
    (repeat first | refine Qo ?_ | refine Qn ?_); refine QK (by kernel_rfl) ?_; intro K_ hK_; simp -implicitDefEqProofs (disch := (try simp only [sl]); try omega) only [sm,QJ,Qj,Qi,Qq,QC,Qz,bd,QF,look,aput,Qm,QH,Qg,ty,↓reduceIte,Nat.reduceEqDiff,Nat.reduceAdd,Nat.reduceSub,Nat.reduceMul,Int.reduceLT,Int.reduceLE,Int.reduceNeg,Int.reduceToNat,reduceCtorEq,Nat.reduceBEq,Nat.reduceBNe,Qk,Qe,Value.cells,am,mm,keep, f_, fo_, aint, lv, zA, hzl, hac]
    obtain ⟨p0, hp0⟩ : ∃ x, leN ((b.drop 0).take 1) = x := ⟨_, rfl⟩
    obtain ⟨p1, hp1⟩ : ∃ x, leN ((b.drop 1).take 2) = x := ⟨_, rfl⟩
    obtain ⟨p2, hp2⟩ : ∃ x, leN ((b.drop 3).take 4) = x := ⟨_, rfl⟩
    obtain ⟨p3, hp3⟩ : ∃ x, leN ((b.drop 7).take 1) = x := ⟨_, rfl⟩
    obtain ⟨p4, hp4⟩ : ∃ x, (b.drop 8).take 32 = x := ⟨_, rfl⟩
    obtain ⟨p5, hp5⟩ : ∃ x, leN ((b.drop 40).take 1) = x := ⟨_, rfl⟩
    obtain ⟨p6, hp6⟩ : ∃ x, leN ((b.drop 41).take 4) = x := ⟨_, rfl⟩
    obtain ⟨p7, hp7⟩ : ∃ x, (b.drop 45).take 32 = x := ⟨_, rfl⟩
    obtain ⟨p8, hp8⟩ : ∃ x, leN ((b.drop 77).take 8) = x := ⟨_, rfl⟩
    have hof : An.of b = ⟨(p0.toNat : Int), (p1.toNat : Int), p2.toUInt32, (p3.toNat : Int), p4, (p5.toNat : Int), p6.toUInt32, p7, p8⟩ := by rw [An.of, hp0, hp1, hp2, hp3, hp4, hp5, hp6, hp7, hp8]
    have hwf := of_wf hl
    rw [hof] at hwf
    have w4 : p4.length = 32 := hwf.1
    have w7 : p7.length = 32 := hwf.2.1
    have c0 : IntKind.i64.wrap (p0.toNat : Int) = p0.toNat := hwf.2.2.1.wi
    have c1 : IntKind.i64.wrap (p1.toNat : Int) = p1.toNat := hwf.2.2.2.1.wi
    have c3 : IntKind.i64.wrap (p3.toNat : Int) = p3.toNat := hwf.2.2.2.2.1.wi
    have c5 : IntKind.i64.wrap (p5.toNat : Int) = p5.toNat := hwf.2.2.2.2.2.wi
    have hz32 := zb_length 32
    have l0 : ∀ (v pg hp : Int) (ep : UInt32), (ac ⟨v, pg, ep, hp, zb 32, 0, 0, zb 32, 0⟩).length = 71 := fun _ _ _ _ => by simp only [ac, List.length_append, List.length_map, hz32]; rfl
    have hbd : ∀ (v pg : Int) (ep : UInt32) (hp : Int), Value.int .i64 v :: Value.int .i64 pg :: Value.int .u32 (ep.toNat : Int) :: Value.int .i64 hp :: (List.replicate 32 (Value.int .u8 0) ++ (Value.int .i64 0 :: Value.int .u32 0 :: (List.replicate 32 (Value.int .u8 0) ++ [Value.int .u64 0]))) = ac ⟨v, pg, ep, hp, zb 32, 0, 0, zb 32, 0⟩ := fun _ _ _ _ => rfl
    simp only [List.replicate, List.cons_append, List.nil_append] at hbd
    rw [show b = b.drop 0 from (List.drop_zero).symm] at i2
    try rw [← hu1]
    refine ACalls.mono (rdnum_calls g 1 255 ⟨b.drop 0, 0⟩ H2 H1.length hg i2 (by simp only [List.length_drop]; omega) (by decide) (by decide)) ?_
    rintro _ H3 ⟨rfl, i3, b3⟩
    rw [h1, (rd_num b 0 1 255 (by omega) (by decide) (by simp)).1, hp0]
    rw [h1, (rd_num b 0 1 255 (by omega) (by decide) (by simp)).2] at i3
    replace N_ := N_.but b3 (by omega) (by repeat first | exact List.forall_mem_nil _ | refine List.forall_mem_cons.2 ⟨by simp only []; omega, ?_⟩)
    clear fo_; have fo_ := f_; clear f_
    have f_ := N_.has
    simp only [Has] at f_
    try simp -implicitDefEqProofs (disch := (try simp only [sl]); try omega) only [sm,QJ,Qj,Qi,Qq,QC,Qz,bd,QF,look,aput,Qm,QH,Qg,ty,↓reduceIte,Nat.reduceEqDiff,Nat.reduceAdd,Nat.reduceSub,Nat.reduceMul,Int.reduceLT,Int.reduceLE,Int.reduceNeg,Int.reduceToNat,reduceCtorEq,Nat.reduceBEq,Nat.reduceBNe,Qk,Qe,Value.cells,am,mm,keep, f_, fo_, aint, zA, hzl, hac, c0, c1, c3, c5]
    try (refine hK_ _ _ ?_; clear hK_ K_; repeat first | refine QL ?_ | refine QM ?_)
    try rw [← hu2]
    refine ACalls.mono (rdnum_calls g 2 65535 ⟨b.drop 1, 0⟩ H3 H1.length hg i3 (by simp only [List.length_drop]; omega) (by decide) (by decide)) ?_
    rintro _ H4 ⟨rfl, i4, b4⟩
    rw [h2, (rd_num b 1 2 65535 (by omega) (by decide) (by simp)).1, hp1]
    rw [h2, (rd_num b 1 2 65535 (by omega) (by decide) (by simp)).2] at i4
    replace N_ := N_.but b4 (by omega) (by repeat first | exact List.forall_mem_nil _ | refine List.forall_mem_cons.2 ⟨by simp only []; omega, ?_⟩)
    clear fo_; have fo_ := f_; clear f_
    have f_ := N_.has
    simp only [Has] at f_
    try simp -implicitDefEqProofs (disch := (try simp only [sl]); try omega) only [sm,QJ,Qj,Qi,Qq,QC,Qz,bd,QF,look,aput,Qm,QH,Qg,ty,↓reduceIte,Nat.reduceEqDiff,Nat.reduceAdd,Nat.reduceSub,Nat.reduceMul,Int.reduceLT,Int.reduceLE,Int.reduceNeg,Int.reduceToNat,reduceCtorEq,Nat.reduceBEq,Nat.reduceBNe,Qk,Qe,Value.cells,am,mm,keep, f_, fo_, aint, zA, hzl, hac, c0, c1, c3, c5]
    try (refine hK_ _ _ ?_; clear hK_ K_; repeat first | refine QL ?_ | refine QM ?_)
    try rw [← hu4]
    refine ACalls.mono (rdnum_calls g 4 4294967295 ⟨b.drop 3, 0⟩ H4 H1.length hg i4 (by simp only [List.length_drop]; omega) (by decide) (by decide)) ?_
    rintro _ H5 ⟨rfl, i5, b5⟩
    rw [h4, (rd_num b 3 4 4294967295 (by omega) (by decide) (by simp)).1, hp2]
    rw [h4, (rd_num b 3 4 4294967295 (by omega) (by decide) (by simp)).2] at i5
    replace N_ := N_.but b5 (by omega) (by repeat first | exact List.forall_mem_nil _ | refine List.forall_mem_cons.2 ⟨by simp only []; omega, ?_⟩)
    clear fo_; have fo_ := f_; clear f_
    have f_ := N_.has
    simp only [Has] at f_
    try simp -implicitDefEqProofs (disch := (try simp only [sl]); try omega) only [sm,QJ,Qj,Qi,Qq,QC,Qz,bd,QF,look,aput,Qm,QH,Qg,ty,↓reduceIte,Nat.reduceEqDiff,Nat.reduceAdd,Nat.reduceSub,Nat.reduceMul,Int.reduceLT,Int.reduceLE,Int.reduceNeg,Int.reduceToNat,reduceCtorEq,Nat.reduceBEq,Nat.reduceBNe,Qk,Qe,Value.cells,am,mm,keep, f_, fo_, aint, zA, hzl, hac, c0, c1, c3, c5]
    try (refine hK_ _ _ ?_; clear hK_ K_; repeat first | refine QL ?_ | refine QM ?_)
    try rw [← hu1]
    refine ACalls.mono (rdnum_calls g 1 255 ⟨b.drop 7, 0⟩ H5 H1.length hg i5 (by simp only [List.length_drop]; omega) (by decide) (by decide)) ?_
    rintro _ H6 ⟨rfl, i6, b6⟩
    rw [h1, (rd_num b 7 1 255 (by omega) (by decide) (by simp)).1, hp3]
    rw [h1, (rd_num b 7 1 255 (by omega) (by decide) (by simp)).2] at i6
    replace N_ := N_.but b6 (by omega) (by repeat first | exact List.forall_mem_nil _ | refine List.forall_mem_cons.2 ⟨by simp only []; omega, ?_⟩)
    clear fo_; have fo_ := f_; clear f_
    have f_ := N_.has
    simp only [Has] at f_
    have hov := ovr_all (ac An.zero) (ac ⟨(p0.toNat : Int), (p1.toNat : Int), p2.toUInt32, (p3.toNat : Int), zb 32, 0, 0, zb 32, 0⟩) (by rw [l0, hzl])
    try simp -implicitDefEqProofs (disch := (try simp only [sl]); try omega) only [sm,QJ,Qj,Qi,Qq,QC,Qz,bd,QF,look,aput,Qm,QH,Qg,ty,↓reduceIte,Nat.reduceEqDiff,Nat.reduceAdd,Nat.reduceSub,Nat.reduceMul,Int.reduceLT,Int.reduceLE,Int.reduceNeg,Int.reduceToNat,reduceCtorEq,Nat.reduceBEq,Nat.reduceBNe,Qk,Qe,Value.cells,am,mm,keep, f_, fo_, aint, zA, hzl, hac, c0, c1, c3, c5, bd, hbd, l0, hov]
    try (refine hK_ _ _ ?_; clear hK_ K_; repeat first | refine QL ?_ | refine QM ?_)
    first | refine AWp.snap8 N_ ?_ | refine AWp.snap7 N_ ?_ | refine AWp.snap6 N_ ?_ | refine AWp.snap5 N_ ?_ | refine AWp.snap4 N_ ?_ | refine AWp.snap3 N_ ?_ | refine AWp.snap2 N_ ?_ | refine AWp.snap1 N_ ?_
    clear fo_; have fo_ := f_; clear f_ N_; intro H7 xH7 lH7 N_
    have f_ := N_.has
    simp only [Has] at f_
    have i7 := i6.mono xH7
    (repeat first | refine Qo ?_ | refine Qn ?_); refine QK (by kernel_rfl) ?_; intro K_ hK_; simp -implicitDefEqProofs (disch := (try simp only [sl]); try omega) only [sm,QJ,Qj,Qi,Qq,QC,bd,look,aput,Qm,Qc,ty,↓reduceIte,Nat.reduceEqDiff,Nat.reduceAdd,Nat.reduceSub,Nat.reduceMul,Int.reduceLT,Int.reduceLE,Int.reduceNeg,Int.reduceToNat,reduceCtorEq,Nat.reduceBEq,Nat.reduceBNe,Qk,Qe,Value.cells,am,mm,keep, f_, fo_, aint, zA, hzl, hac, c0, c1, c3, c5]
    have hg7 := i7.lt
    have hgl := i6.lt
    have hg16 : H1.length ≤ H6.length := by omega
    have lA : ∀ (hd rt : List UInt8) (rp : Int) (re : UInt32) (cm : UInt64), hd.length = 32 → rt.length = 32 → (ac ⟨(p0.toNat : Int), (p1.toNat : Int), p2.toUInt32, (p3.toNat : Int), hd, rp, re, rt, cm⟩).length = 71 := fun hd rt _ _ _ h h' => by simp only [ac, List.length_append, List.length_map, h, h']; rfl
    refine ACalls.mono (adigest_calls g b 8 H7 H1.length hg i7 hl1 (by omega)) ?_
    rintro _ H8 ⟨rfl, i8, b8⟩
    rw [hp4]
    replace N_ := N_.but b8 (by omega) (by repeat first | exact List.forall_mem_nil _ | refine List.forall_mem_cons.2 ⟨by simp only []; omega, ?_⟩)
    clear fo_; have fo_ := f_; clear f_
    have f_ := N_.has
    simp only [Has] at f_
    have hov := ovr_hd (p0.toNat : Int) (p1.toNat : Int) p2.toUInt32 (p3.toNat : Int) 0 0 (zb 32) 0 (zb 32) p4 hz32 w4
    have lw4 : (p4.map U8).length = 32 := by rw [List.length_map, w4]
    try simp -implicitDefEqProofs (disch := (try simp only [sl]); try omega) only [sm,QJ,Qj,Qi,Qq,QC,bd,look,aput,Qm,Qc,ty,↓reduceIte,Nat.reduceEqDiff,Nat.reduceAdd,Nat.reduceSub,Nat.reduceMul,Int.reduceLT,Int.reduceLE,Int.reduceNeg,Int.reduceToNat,reduceCtorEq,Nat.reduceBEq,Nat.reduceBNe,Qk,Qe,Value.cells,am,mm,keep, f_, fo_, aint, zA, hzl, hac, c0, c1, c3, c5, l0, hov, lw4, w4]
    try (refine hK_ _ _ ?_; clear hK_ K_; repeat first | refine QL ?_ | refine QM ?_)
    refine AWp.snapset N_ (by omega) (by omega) ?_
    clear fo_; have fo_ := f_; clear f_ N_; intro H9 lH9 xH9 N_; simp (disch := omega) only [List.map_cons, List.map_nil, if_pos, if_neg, ↓reduceIte] at N_
    have f_ := N_.has
    simp only [Has] at f_
    have i9 := i8.but (by omega) hg16 xH9
    clear fo_
    have fo_ := True.intro
    have l9 := lA p4 (zb 32) 0 0 0 w4 hz32
    (repeat first | refine Qo ?_ | refine Qn ?_); refine QK (by kernel_rfl) ?_; intro K_ hK_; simp -implicitDefEqProofs (disch := (try simp only [sl]); try omega) only [sm,QJ,Qj,Qi,Qq,QC,Qz,bd,QF,look,aput,Qm,QH,Qg,Qc,ty,↓reduceIte,Nat.reduceEqDiff,Nat.reduceAdd,Nat.reduceSub,Nat.reduceMul,Int.reduceLT,Int.reduceLE,Int.reduceNeg,Int.reduceToNat,reduceCtorEq,Nat.reduceBEq,Nat.reduceBNe,Qk,Qe,Value.cells,am,mm,keep, f_, fo_, aint, zA, hzl, hac, c0, c1, c3, c5, w4, w7, l9]
    try rw [← hu1]
    refine ACalls.mono (rdnum_calls g 1 255 ⟨b.drop 40, 0⟩ H9 H1.length hg i9 (by simp only [List.length_drop]; omega) (by decide) (by decide)) ?_
    rintro _ H10 ⟨rfl, i10, b10⟩
    rw [h1, (rd_num b 40 1 255 (by omega) (by decide) (by simp)).1, hp5]
    rw [h1, (rd_num b 40 1 255 (by omega) (by decide) (by simp)).2] at i10
    replace N_ := N_.but b10 (by omega) (by repeat first | exact List.forall_mem_nil _ | refine List.forall_mem_cons.2 ⟨by simp only []; omega, ?_⟩)
    clear fo_; have fo_ := f_; clear f_
    have f_ := N_.has
    simp only [Has] at f_
    try simp -implicitDefEqProofs (disch := (try simp only [sl]); try omega) only [sm,QJ,Qj,Qi,Qq,QC,Qz,bd,QF,look,aput,Qm,QH,Qg,Qc,ty,↓reduceIte,Nat.reduceEqDiff,Nat.reduceAdd,Nat.reduceSub,Nat.reduceMul,Int.reduceLT,Int.reduceLE,Int.reduceNeg,Int.reduceToNat,reduceCtorEq,Nat.reduceBEq,Nat.reduceBNe,Qk,Qe,Value.cells,am,mm,keep, f_, fo_, aint, zA, hzl, hac, c0, c1, c3, c5, w4, w7]
    try (refine hK_ _ _ ?_; clear hK_ K_; repeat first | refine QL ?_ | refine QM ?_)
    try rw [← hu4]
    refine ACalls.mono (rdnum_calls g 4 4294967295 ⟨b.drop 41, 0⟩ H10 H1.length hg i10 (by simp only [List.length_drop]; omega) (by decide) (by decide)) ?_
    rintro _ H11 ⟨rfl, i11, b11⟩
    rw [h4, (rd_num b 41 4 4294967295 (by omega) (by decide) (by simp)).1, hp6]
    rw [h4, (rd_num b 41 4 4294967295 (by omega) (by decide) (by simp)).2] at i11
    replace N_ := N_.but b11 (by omega) (by repeat first | exact List.forall_mem_nil _ | refine List.forall_mem_cons.2 ⟨by simp only []; omega, ?_⟩)
    clear fo_; have fo_ := f_; clear f_
    have f_ := N_.has
    simp only [Has] at f_
    have st1 := set_rp (p0.toNat : Int) (p1.toNat : Int) p2.toUInt32 (p3.toNat : Int) 0 (p5.toNat : Int) 0 p4 (zb 32) 0 w4
    have st2 := set_re (p0.toNat : Int) (p1.toNat : Int) p2.toUInt32 (p3.toNat : Int) (p5.toNat : Int) 0 p6.toUInt32 p4 (zb 32) 0 w4
    have l10 := lA p4 (zb 32) (p5.toNat : Int) 0 0 w4 hz32
    try simp -implicitDefEqProofs (disch := (try simp only [sl]); try omega) only [sm,QJ,Qj,Qi,Qq,QC,Qz,bd,QF,look,aput,Qm,QH,Qg,Qc,ty,↓reduceIte,Nat.reduceEqDiff,Nat.reduceAdd,Nat.reduceSub,Nat.reduceMul,Int.reduceLT,Int.reduceLE,Int.reduceNeg,Int.reduceToNat,reduceCtorEq,Nat.reduceBEq,Nat.reduceBNe,Qk,Qe,Value.cells,am,mm,keep, f_, fo_, aint, zA, hzl, hac, c0, c1, c3, c5, w4, w7, l9, l10, st1, st2]
    try (refine hK_ _ _ ?_; clear hK_ K_; repeat first | refine QL ?_ | refine QM ?_)
    refine AWp.snapset N_ (by omega) (by omega) ?_
    clear fo_; have fo_ := f_; clear f_ N_; intro H12 lH12 xH12 N_; simp (disch := omega) only [List.map_cons, List.map_nil, if_pos, if_neg, ↓reduceIte] at N_
    have f_ := N_.has
    simp only [Has] at f_
    have i12 := i11.but (by omega) hg16 xH12
    (repeat first | refine Qo ?_ | refine Qn ?_); refine QK (by kernel_rfl) ?_; intro K_ hK_; simp -implicitDefEqProofs (disch := (try simp only [sl]); try omega) only [sm,QJ,Qj,Qi,Qq,QC,bd,look,aput,Qm,Qc,ty,↓reduceIte,Nat.reduceEqDiff,Nat.reduceAdd,Nat.reduceSub,Nat.reduceMul,Int.reduceLT,Int.reduceLE,Int.reduceNeg,Int.reduceToNat,reduceCtorEq,Nat.reduceBEq,Nat.reduceBNe,Qk,Qe,Value.cells,am,mm,keep, f_, fo_, aint, zA, hzl, hac, c0, c1, c3, c5, w4, w7]
    refine ACalls.mono (adigest_calls g b 45 H12 H1.length hg i12 hl1 (by omega)) ?_
    rintro _ H13 ⟨rfl, i13, b13⟩
    rw [hp7]
    replace N_ := N_.but b13 (by omega) (by repeat first | exact List.forall_mem_nil _ | refine List.forall_mem_cons.2 ⟨by simp only []; omega, ?_⟩)
    clear fo_; have fo_ := f_; clear f_
    have f_ := N_.has
    simp only [Has] at f_
    have hov7 := ovr_rt (p0.toNat : Int) (p1.toNat : Int) p2.toUInt32 (p3.toNat : Int) (p5.toNat : Int) p6.toUInt32 p4 0 (zb 32) p7 w4 hz32 w7
    have lw7 : (p7.map U8).length = 32 := by rw [List.length_map, w7]
    have l12 := lA p4 (zb 32) (p5.toNat : Int) p6.toUInt32 0 w4 hz32
    try simp -implicitDefEqProofs (disch := (try simp only [sl]); try omega) only [sm,QJ,Qj,Qi,Qq,QC,bd,look,aput,Qm,Qc,ty,↓reduceIte,Nat.reduceEqDiff,Nat.reduceAdd,Nat.reduceSub,Nat.reduceMul,Int.reduceLT,Int.reduceLE,Int.reduceNeg,Int.reduceToNat,reduceCtorEq,Nat.reduceBEq,Nat.reduceBNe,Qk,Qe,Value.cells,am,mm,keep, f_, fo_, aint, zA, hzl, hac, c0, c1, c3, c5, w4, w7, l12, hov7, lw7, w7]
    try (refine hK_ _ _ ?_; clear hK_ K_; repeat first | refine QL ?_ | refine QM ?_)
    refine AWp.snapset N_ (by omega) (by omega) ?_
    clear fo_; have fo_ := f_; clear f_ N_; intro H14 lH14 xH14 N_; simp (disch := omega) only [List.map_cons, List.map_nil, if_pos, if_neg, ↓reduceIte] at N_
    have f_ := N_.has
    simp only [Has] at f_
    have i14 := i13.but (by omega) hg16 xH14
    (repeat first | refine Qo ?_ | refine Qn ?_); refine QK (by kernel_rfl) ?_; intro K_ hK_; simp -implicitDefEqProofs (disch := (try simp only [sl]); try omega) only [sm,QJ,Qj,Qi,Qq,QC,bd,look,aput,Qm,Qc,ty,↓reduceIte,Nat.reduceEqDiff,Nat.reduceAdd,Nat.reduceSub,Nat.reduceMul,Int.reduceLT,Int.reduceLE,Int.reduceNeg,Int.reduceToNat,reduceCtorEq,Nat.reduceBEq,Nat.reduceBNe,Qk,Qe,Value.cells,am,mm,keep, f_, fo_, aint, zA, hzl, hac, c0, c1, c3, c5, w4, w7]
    try rw [← hu8]
    refine ACalls.mono (rdnum_calls g 8 18446744073709551615 ⟨b.drop 77, 0⟩ H14 H1.length hg i14 (by simp only [List.length_drop]; omega) (by decide) (by decide)) ?_
    rintro _ H15 ⟨rfl, i15, b15⟩
    rw [h8, (rd_num b 77 8 18446744073709551615 (by omega) (by decide) (by simp)).1, hp8]
    rw [h8, (rd_num b 77 8 18446744073709551615 (by omega) (by decide) (by simp)).2] at i15
    replace N_ := N_.but b15 (by omega) (by repeat first | exact List.forall_mem_nil _ | refine List.forall_mem_cons.2 ⟨by simp only []; omega, ?_⟩)
    clear fo_; have fo_ := f_; clear f_
    have f_ := N_.has
    simp only [Has] at f_
    have l14 := lA p4 p7 (p5.toNat : Int) p6.toUInt32 0 w4 w7
    have st3 := set_cm (p0.toNat : Int) (p1.toNat : Int) p2.toUInt32 (p3.toNat : Int) (p5.toNat : Int) p6.toUInt32 p4 p7 0 p8 w4 w7
    try simp -implicitDefEqProofs (disch := (try simp only [sl]); try omega) only [sm,QJ,Qj,Qi,Qq,QC,bd,look,aput,Qm,Qc,ty,↓reduceIte,Nat.reduceEqDiff,Nat.reduceAdd,Nat.reduceSub,Nat.reduceMul,Int.reduceLT,Int.reduceLE,Int.reduceNeg,Int.reduceToNat,reduceCtorEq,Nat.reduceBEq,Nat.reduceBNe,Qk,Qe,Value.cells,am,mm,keep, f_, fo_, aint, zA, hzl, hac, c0, c1, c3, c5, w4, w7, l14, st3]
    try (refine hK_ _ _ ?_; clear hK_ K_; repeat first | refine QL ?_ | refine QM ?_)
    refine AWp.snapset N_ (by omega) (by omega) ?_
    clear fo_; have fo_ := f_; clear f_ N_; intro H16 lH16 xH16 N_; simp (disch := omega) only [List.map_cons, List.map_nil, if_pos, if_neg, ↓reduceIte] at N_
    have f_ := N_.has
    simp only [Has] at f_
    have i16 := i15.but (by omega) hg16 xH16
    rw [← hof] at N_
    have f_ := N_.has
    simp only [Has] at f_
    have wf := of_wf hl
    have lo := ac_length wf
    have tko := ac_take wf
    have ovo := ac_ovr zero_wf wf
    clear fo_
    have fo_ := True.intro
    (repeat first | refine Qo ?_ | refine Qn ?_); refine QK (by kernel_rfl) ?_; intro K_ hK_; simp -implicitDefEqProofs (disch := (try simp only [sl]); try omega) only [sm,QJ,Qj,Qi,Qq,QC,Qz,bd,QF,look,aput,Qm,QI,abin,anil,QG,QA,ty,↓reduceIte,Nat.reduceEqDiff,Nat.reduceAdd,Nat.reduceSub,Nat.reduceMul,Int.reduceLT,Int.reduceLE,Int.reduceNeg,Int.reduceToNat,reduceCtorEq,Nat.reduceBEq,Nat.reduceBNe,Qk,Qe,Value.cells,am,mm,keep, f_, fo_, aint, zA, hzl, hac, lo, tko, ovo]
    refine ACalls.mono (rdrest_calls g ⟨b.drop 85, 0⟩ H16 H1.length hg i16 (by simp only [List.length_drop]; omega)) ?_
    rintro _ H17 ⟨rfl, i17, b17⟩
    replace N_ := N_.but b17 (by omega) (by repeat first | exact List.forall_mem_nil _ | refine List.forall_mem_cons.2 ⟨by simp only []; omega, ?_⟩)
    clear fo_; have fo_ := f_; clear f_
    have f_ := N_.has
    simp only [Has] at f_
    by_cases hz : zer (b.drop 85) = true
    · have hr : (Rd.rest ⟨b.drop 85, 0⟩).e = 0 := by rw [Rd.rest, if_pos hz]
      have hr2 : ((0 : Int) != 0) = false := rfl
      rw [hr]
      try simp -implicitDefEqProofs (disch := (try simp only [sl]); try omega) only [sm,QJ,Qj,Qi,Qq,QC,Qz,bd,QF,look,aput,Qm,QI,abin,anil,QG,QA,ty,↓reduceIte,Nat.reduceEqDiff,Nat.reduceAdd,Nat.reduceSub,Nat.reduceMul,Int.reduceLT,Int.reduceLE,Int.reduceNeg,Int.reduceToNat,reduceCtorEq,Nat.reduceBEq,Nat.reduceBNe,Qk,Qe,Value.cells,am,mm,keep, f_, fo_, aint, zA, hzl, hac, lo, tko, ovo, hr2]
      try (refine hK_ _ _ ?_; clear hK_ K_; repeat first | refine QL ?_ | refine QM ?_)
      refine ACalls.mono (may_calls (An.of b) H17 wf) ?_
      rintro _ H18 ⟨rfl, e18⟩
      replace N_ := N_.grow e18
      clear fo_; have fo_ := f_; clear f_
      have f_ := N_.has
      simp only [Has] at f_
      by_cases hm : (An.of b).may
      · have hok : okA b := ⟨hl, hz, hm⟩
        try simp -implicitDefEqProofs (disch := (try simp only [sl]); try omega) only [sm,QJ,Qj,Qi,Qq,QC,Qz,bd,QF,look,aput,Qm,QI,abin,anil,QG,QA,ty,↓reduceIte,Nat.reduceEqDiff,Nat.reduceAdd,Nat.reduceSub,Nat.reduceMul,Int.reduceLT,Int.reduceLE,Int.reduceNeg,Int.reduceToNat,reduceCtorEq,Nat.reduceBEq,Nat.reduceBNe,Qk,Qe,Value.cells,am,mm,keep, f_, fo_, aint, zA, hzl, hac, lo, tko, ovo, decide_eq_true hm]
        try (refine hK_ _ _ ?_; clear hK_ K_; repeat first | refine QL ?_ | refine QM ?_)
        repeat first | refine Qo ?_ | refine Qn ?_
        refine awp_if false rfl (by simp only [aeval_tmp, look, ↓reduceIte, Nat.reduceEqDiff]; try rfl) (fun h => absurd h (by decide)) (fun _ => ?_)
        iterate 2 ((repeat first | refine Qo ?_ | refine Qn ?_); (first | (refine QK (by kernel_rfl) ?_; intro K_ hK_; simp -implicitDefEqProofs (disch := (try simp only [sl]); try omega) only [sm,QJ,Qj,Qi,Qq,QC,Qz,bd,QF,look,aput,Qm,QA,ty,↓reduceIte,Nat.reduceEqDiff,Nat.reduceAdd,Nat.reduceSub,Nat.reduceMul,Int.reduceLT,Int.reduceLE,Int.reduceNeg,Int.reduceToNat,reduceCtorEq,Nat.reduceBEq,Nat.reduceBNe,Qk,Qe,Value.cells,am,mm,keep, f_, fo_, aint, zA, hzl, hac, lo, tko, ovo]; refine hK_ _ _ ?_; clear hK_ K_; repeat first | refine QL ?_ | refine QM ?_) | (refine awp_skip ?_; repeat first | refine QL ?_ | refine QM ?_)))
        first | refine awp_ret ?_ | skip
        show ∃ v, aresults Tryd.prog Tryd.f43 _ _ = some v ∧ _
        rw [aresults_2 (r := .cell 2 57) (s := .tmp 3) (by kernel_rfl)]
        simp -implicitDefEqProofs (disch := (try simp only [sl]); try omega) only [aresult, Option.some.injEq, exists_eq_left', sm,Qj,Qi,Qq,QC,Qz,bd,QF,look,aput,QB,Qf,QA,ty,↓reduceIte,Nat.reduceEqDiff,Nat.reduceAdd,Nat.reduceSub,Nat.reduceMul,Int.reduceLT,Int.reduceLE,Int.reduceNeg,Int.reduceToNat,reduceCtorEq,Nat.reduceBEq,Nat.reduceBNe,Qk,Qe,Value.cells,am,mm,keep, f_, fo_, aint, zA, hzl, hac, lo, tko, ovo]
        rw [parA, parE, if_pos hok, if_pos hok]
        exact ⟨rfl, N_.ext.set _ (by omega)⟩
      · have hok : ¬ okA b := fun h => hm h.2.2
        try simp -implicitDefEqProofs (disch := (try simp only [sl]); try omega) only [sm,QJ,Qj,Qi,Qq,QC,Qz,bd,QF,look,aput,Qm,QI,abin,anil,QG,QA,ty,↓reduceIte,Nat.reduceEqDiff,Nat.reduceAdd,Nat.reduceSub,Nat.reduceMul,Int.reduceLT,Int.reduceLE,Int.reduceNeg,Int.reduceToNat,reduceCtorEq,Nat.reduceBEq,Nat.reduceBNe,Qk,Qe,Value.cells,am,mm,keep, f_, fo_, aint, zA, hzl, hac, lo, tko, ovo, decide_eq_false hm]
        try (refine hK_ _ _ ?_; clear hK_ K_; repeat first | refine QL ?_ | refine QM ?_)
        repeat first | refine Qo ?_ | refine Qn ?_
        refine awp_if true rfl (by simp only [aeval_tmp, look, ↓reduceIte, Nat.reduceEqDiff]; try rfl) (fun _ => ?_) (fun h => absurd h (by decide))
        iterate 1 ((repeat first | refine Qo ?_ | refine Qn ?_); (first | (refine QK (by kernel_rfl) ?_; intro K_ hK_; simp -implicitDefEqProofs (disch := (try simp only [sl]); try omega) only [sm,QJ,Qj,Qi,Qq,QC,bd,look,aput,Qm,ty,↓reduceIte,Nat.reduceEqDiff,Nat.reduceAdd,Nat.reduceSub,Nat.reduceMul,Int.reduceLT,Int.reduceLE,Int.reduceNeg,Int.reduceToNat,reduceCtorEq,Nat.reduceBEq,Nat.reduceBNe,Qk,Qe,Value.cells,am,mm,keep, f_, fo_, aint, zA, hzl, hac, lo, tko, ovo, bd, ovz]; refine hK_ _ _ ?_; clear hK_ K_; repeat first | refine QL ?_ | refine QM ?_)))
        first | refine awp_ret ?_ | skip
        show ∃ v, aresults Tryd.prog Tryd.f43 _ _ = some v ∧ _
        rw [aresults_2 (r := .cell 2 57) (s := .tmp 3) (by kernel_rfl)]
        simp -implicitDefEqProofs (disch := (try simp only [sl]); try omega) only [aresult, Option.some.injEq, exists_eq_left', sm,Qj,Qi,Qq,QC,Qz,bd,QF,look,aput,QB,Qf,QA,ty,↓reduceIte,Nat.reduceEqDiff,Nat.reduceAdd,Nat.reduceSub,Nat.reduceMul,Int.reduceLT,Int.reduceLE,Int.reduceNeg,Int.reduceToNat,reduceCtorEq,Nat.reduceBEq,Nat.reduceBNe,Qk,Qe,Value.cells,am,mm,keep, f_, fo_, aint, zA, hzl, hac, lo, tko, ovo]
        rw [parA, parE, if_neg hok, if_neg hok, if_neg (by omega)]
        exact ⟨rfl, N_.ext.set _ (by omega)⟩
    · have hok : ¬ okA b := fun h => hz h.2.1
      have hr : (Rd.rest ⟨b.drop 85, 0⟩).e = 3 := by rw [Rd.rest, if_neg hz, Rd.fails, if_pos rfl]
      have hr2 : ((3 : Int) != 0) = true := rfl
      rw [hr]
      try simp -implicitDefEqProofs (disch := (try simp only [sl]); try omega) only [sm,QJ,Qj,Qi,Qq,QC,Qz,bd,QF,look,aput,Qm,QI,abin,anil,QG,QA,ty,↓reduceIte,Nat.reduceEqDiff,Nat.reduceAdd,Nat.reduceSub,Nat.reduceMul,Int.reduceLT,Int.reduceLE,Int.reduceNeg,Int.reduceToNat,reduceCtorEq,Nat.reduceBEq,Nat.reduceBNe,Qk,Qe,Value.cells,am,mm,keep, f_, fo_, aint, zA, hzl, hac, lo, tko, ovo, hr2]
      try (refine hK_ _ _ ?_; clear hK_ K_; repeat first | refine QL ?_ | refine QM ?_)
      try simp -implicitDefEqProofs (disch := (try simp only [sl]); try omega) only [sm,QJ,Qj,Qi,Qq,QC,Qz,bd,QF,look,aput,Qm,QI,abin,anil,QG,QA,ty,↓reduceIte,Nat.reduceEqDiff,Nat.reduceAdd,Nat.reduceSub,Nat.reduceMul,Int.reduceLT,Int.reduceLE,Int.reduceNeg,Int.reduceToNat,reduceCtorEq,Nat.reduceBEq,Nat.reduceBNe,Qk,Qe,Value.cells,am,mm,keep, f_, fo_, aint, zA, hzl, hac, lo, tko, ovo]
      try (refine hK_ _ _ ?_; clear hK_ K_; repeat first | refine QL ?_ | refine QM ?_)
      repeat first | refine Qo ?_ | refine Qn ?_
      refine awp_if true rfl (by simp only [aeval_tmp, look, ↓reduceIte, Nat.reduceEqDiff]; try rfl) (fun _ => ?_) (fun h => absurd h (by decide))
      iterate 1 ((repeat first | refine Qo ?_ | refine Qn ?_); (first | (refine QK (by kernel_rfl) ?_; intro K_ hK_; simp -implicitDefEqProofs (disch := (try simp only [sl]); try omega) only [sm,QJ,Qj,Qi,Qq,QC,bd,look,aput,Qm,ty,↓reduceIte,Nat.reduceEqDiff,Nat.reduceAdd,Nat.reduceSub,Nat.reduceMul,Int.reduceLT,Int.reduceLE,Int.reduceNeg,Int.reduceToNat,reduceCtorEq,Nat.reduceBEq,Nat.reduceBNe,Qk,Qe,Value.cells,am,mm,keep, f_, fo_, aint, zA, hzl, hac, lo, tko, ovo, bd, ovz]; refine hK_ _ _ ?_; clear hK_ K_; repeat first | refine QL ?_ | refine QM ?_)))
      first | refine awp_ret ?_ | skip
      show ∃ v, aresults Tryd.prog Tryd.f43 _ _ = some v ∧ _
      rw [aresults_2 (r := .cell 2 57) (s := .tmp 3) (by kernel_rfl)]
      simp -implicitDefEqProofs (disch := (try simp only [sl]); try omega) only [aresult, Option.some.injEq, exists_eq_left', sm,Qj,Qi,Qq,QC,Qz,bd,QF,look,aput,QB,Qf,QA,ty,↓reduceIte,Nat.reduceEqDiff,Nat.reduceAdd,Nat.reduceSub,Nat.reduceMul,Int.reduceLT,Int.reduceLE,Int.reduceNeg,Int.reduceToNat,reduceCtorEq,Nat.reduceBEq,Nat.reduceBNe,Qk,Qe,Value.cells,am,mm,keep, f_, fo_, aint, zA, hzl, hac, lo, tko, ovo]
      rw [parA, parE, if_neg hok, if_neg hok, if_neg (by omega)]
      exact ⟨rfl, N_.ext.set _ (by omega)⟩
  · have hok : ¬ okA b := fun h => hl h.1
    by_cases hlt : b.length < 128
    · have hb : (b.length : Int) < 128 := by omega
      iterate 1 ((repeat first | refine Qo ?_ | refine Qn ?_); (first | (refine QK (by kernel_rfl) ?_; intro K_ hK_; simp -implicitDefEqProofs (disch := (try simp only [sl]); try omega) only [sm,QJ,Qj,Qi,Qq,QC,bd,look,aput,QI,abin,anil,ty,↓reduceIte,Nat.reduceEqDiff,Nat.reduceAdd,Nat.reduceSub,Nat.reduceMul,Int.reduceLT,Int.reduceLE,Int.reduceNeg,Int.reduceToNat,reduceCtorEq,Nat.reduceBEq,Nat.reduceBNe,Qk,Qe,Value.cells,am,mm,keep, f_, fo_, aint, lv, zA, hzl, hac, ovz, hb]; refine hK_ _ _ ?_; clear hK_ K_; repeat first | refine QL ?_ | refine QM ?_)))
      repeat first | refine Qo ?_ | refine Qn ?_
      refine awp_if true rfl (by simp only [aeval_tmp, look, ↓reduceIte, Nat.reduceEqDiff]; try rfl) (fun _ => ?_) (fun h => absurd h (by decide))
      iterate 1 ((repeat first | refine Qo ?_ | refine Qn ?_); (first | (refine QK (by kernel_rfl) ?_; intro K_ hK_; simp -implicitDefEqProofs (disch := (try simp only [sl]); try omega) only [sm,QJ,Qj,Qi,Qq,QC,bd,look,aput,Qm,ty,↓reduceIte,Nat.reduceEqDiff,Nat.reduceAdd,Nat.reduceSub,Nat.reduceMul,Int.reduceLT,Int.reduceLE,Int.reduceNeg,Int.reduceToNat,reduceCtorEq,Nat.reduceBEq,Nat.reduceBNe,Qk,Qe,Value.cells,am,mm,keep, f_, fo_, aint, lv, zA, hzl, hac, ovz, bd]; refine hK_ _ _ ?_; clear hK_ K_; repeat first | refine QL ?_ | refine QM ?_)))
      first | refine awp_ret ?_ | skip
      show ∃ v, aresults Tryd.prog Tryd.f43 _ _ = some v ∧ _
      rw [aresults_2 (r := .cell 2 57) (s := .tmp 3) (by kernel_rfl)]
      simp -implicitDefEqProofs (disch := (try simp only [sl]); try omega) only [aresult, Option.some.injEq, exists_eq_left', sm,Qj,Qi,Qq,QC,Qz,bd,QF,look,aput,QB,Qf,QA,ty,↓reduceIte,Nat.reduceEqDiff,Nat.reduceAdd,Nat.reduceSub,Nat.reduceMul,Int.reduceLT,Int.reduceLE,Int.reduceNeg,Int.reduceToNat,reduceCtorEq,Nat.reduceBEq,Nat.reduceBNe,Qk,Qe,Value.cells,am,mm,keep, f_, fo_, aint, lv, zA, hzl, hac, ovz]
      rw [parA, parE, if_neg hok, if_neg hok, if_pos hlt]
      exact ⟨rfl, N_.ext.set _ (by omega)⟩
    · have hb : ¬ (b.length : Int) < 128 := by omega
      have hb2 : (b.length : Int) > 128 := by omega
      iterate 1 ((repeat first | refine Qo ?_ | refine Qn ?_); (first | (refine QK (by kernel_rfl) ?_; intro K_ hK_; simp -implicitDefEqProofs (disch := (try simp only [sl]); try omega) only [sm,QJ,Qj,Qi,Qq,QC,bd,look,aput,QI,abin,anil,ty,↓reduceIte,Nat.reduceEqDiff,Nat.reduceAdd,Nat.reduceSub,Nat.reduceMul,Int.reduceLT,Int.reduceLE,Int.reduceNeg,Int.reduceToNat,reduceCtorEq,Nat.reduceBEq,Nat.reduceBNe,Qk,Qe,Value.cells,am,mm,keep, f_, fo_, aint, lv, zA, hzl, hac, ovz, hb]; refine hK_ _ _ ?_; clear hK_ K_; repeat first | refine QL ?_ | refine QM ?_)))
      repeat first | refine Qo ?_ | refine Qn ?_
      refine awp_if false rfl (by simp only [aeval_tmp, look, ↓reduceIte, Nat.reduceEqDiff]; try rfl) (fun h => absurd h (by decide)) (fun _ => ?_)
      iterate 1 ((repeat first | refine Qo ?_ | refine Qn ?_); (first | (refine QK (by kernel_rfl) ?_; intro K_ hK_; simp -implicitDefEqProofs (disch := (try simp only [sl]); try omega) only [sm,QJ,Qj,Qi,Qq,QC,bd,look,aput,QI,abin,anil,ty,↓reduceIte,Nat.reduceEqDiff,Nat.reduceAdd,Nat.reduceSub,Nat.reduceMul,Int.reduceLT,Int.reduceLE,Int.reduceNeg,Int.reduceToNat,reduceCtorEq,Nat.reduceBEq,Nat.reduceBNe,Qk,Qe,Value.cells,am,mm,keep, f_, fo_, aint, lv, zA, hzl, hac, ovz, hb2]; refine hK_ _ _ ?_; clear hK_ K_; repeat first | refine QL ?_ | refine QM ?_)))
      repeat first | refine Qo ?_ | refine Qn ?_
      refine awp_if true rfl (by simp only [aeval_tmp, look, ↓reduceIte, Nat.reduceEqDiff]; try rfl) (fun _ => ?_) (fun h => absurd h (by decide))
      iterate 1 ((repeat first | refine Qo ?_ | refine Qn ?_); (first | (refine QK (by kernel_rfl) ?_; intro K_ hK_; simp -implicitDefEqProofs (disch := (try simp only [sl]); try omega) only [sm,QJ,Qj,Qi,Qq,QC,bd,look,aput,Qm,ty,↓reduceIte,Nat.reduceEqDiff,Nat.reduceAdd,Nat.reduceSub,Nat.reduceMul,Int.reduceLT,Int.reduceLE,Int.reduceNeg,Int.reduceToNat,reduceCtorEq,Nat.reduceBEq,Nat.reduceBNe,Qk,Qe,Value.cells,am,mm,keep, f_, fo_, aint, lv, zA, hzl, hac, ovz, bd]; refine hK_ _ _ ?_; clear hK_ K_; repeat first | refine QL ?_ | refine QM ?_)))
      first | refine awp_ret ?_ | skip
      show ∃ v, aresults Tryd.prog Tryd.f43 _ _ = some v ∧ _
      rw [aresults_2 (r := .cell 2 57) (s := .tmp 3) (by kernel_rfl)]
      simp -implicitDefEqProofs (disch := (try simp only [sl]); try omega) only [aresult, Option.some.injEq, exists_eq_left', sm,Qj,Qi,Qq,QC,Qz,bd,QF,look,aput,QB,Qf,QA,ty,↓reduceIte,Nat.reduceEqDiff,Nat.reduceAdd,Nat.reduceSub,Nat.reduceMul,Int.reduceLT,Int.reduceLE,Int.reduceNeg,Int.reduceToNat,reduceCtorEq,Nat.reduceBEq,Nat.reduceBNe,Qk,Qe,Value.cells,am,mm,keep, f_, fo_, aint, lv, zA, hzl, hac, ovz]
      rw [parA, parE, if_neg hok, if_neg hok, if_neg hlt]
      exact ⟨rfl, N_.ext.set _ (by omega)⟩
end Go.Proofs.YtfhbieimffjjkaaDoor
