/- seal's Clash: walked. -/
import Derived.Test.YtpiaohajbbdpdaaSc2
namespace Go.Proofs.Ytpiaohajbbdpdaa
open Go Go.RowKit
--hide
set_option linter.unusedSimpArgs false
set_option linter.unusedVariables false
set_option maxRecDepth 4000
theorem alen_slnU {P : Program} {H : AH} {T : TypeId} {v : Value} {n : Nat} {cells : List Value} (hT : sliceT P T = true) (h : SLn H v n cells) : alen P T v = some (.int .i64 (n : Int)) := by
  obtain ⟨p, e, rfl⟩ := h.shape
  rw [alen_slice, if_pos hT]
set_option maxHeartbeats 8000000 in
theorem clash_calls (v : Value) (n : Nat) (D T : Fn8) (H : AH) (hv : Txt H v n T) (hD : ∀ i, i < n → digest (T i) = D i) (hd : ∀ i, (D i).length = 32) (hn : n ≤ 1000) (ht : ∀ i, i < n → (T i).length ≤ 1000000) :
    ACalls Try.prog 23 #[v] H fun r H' => (∃ a b c, r = .tuple #[.int .i64 a, .int .i64 b, .bool c] ∧ ClS D T n a b c) ∧ Ext H H' := by
  have lv := hv.len (P := Try.prog) (ty := 44) (by simp only [ty])
  have hel : elemT Try.prog 77 = some (1, 8) := by simp only [ty]
  have hsl : sliceT Try.prog 77 = true := by simp only [ty]
  refine acalls_of_body Try.func23 rfl Try.ntmps23 (by simp) ?_
  simp only [argsT, Nat.reduceAdd]
  iterate 3 ((repeat first | refine Qo ?_ | refine Qn ?_); (first | (refine QK (by kernel_rfl) ?_; intro K_ hK_; simp -implicitDefEqProofs (disch := (try simp only [sl]); try omega) only [sm,QJ,Qj,Qi,Qq,QC,bd,look,aput,ty,↓reduceIte,Nat.reduceEqDiff,Nat.reduceAdd,Nat.reduceSub,Nat.reduceMul,Int.reduceLT,Int.reduceLE,Int.reduceNeg,Int.reduceToNat,reduceCtorEq,Nat.reduceBEq,Nat.reduceBNe,Qk,Qe,Value.cells,am,mm,keep, lv, bd, bda]; refine hK_ _ _ ?_; clear hK_ K_; repeat first | refine QL ?_ | refine QM ?_)))
  have hm0 : (H ++ [ABlk.map []])[H.length]? = some (.map (entM [])) := gpush _ _
  have x0 : Ext H (H ++ [ABlk.map []]) := Ext.push _ _
  have l0 : H.length + 1 ≤ (H ++ [ABlk.map []]).length := by simp
  generalize H ++ [ABlk.map []] = H0 at *
  repeat first | refine Qo ?_ | refine Qn ?_
  refine awp_forK [0, 5, 12, 13] (fun x : Nat × List Ent × AH => [(14, I64 x.1)]) (fun x : Nat × List Ent × AH => x.2.2) (fun x : Nat × List Ent × AH => x.1 ≤ n ∧ (∀ k', k' < x.1 → noBad D T k') ∧ Ext H x.2.2 ∧ H.length + 1 ≤ x.2.2.length ∧ x.2.2[H.length]? = some (.map (entM x.2.1)) ∧ MI (H.length + 1) x.2.2 D x.1 x.2.1) (fun x : Nat × List Ent × AH => n - x.1) ((0, [], H0)) (⟨Nat.zero_le _, fun j h => absurd h (by omega), x0, l0, hm0, MI.zero _ _ _⟩) (by repeat first | exact Forgets.nil | refine Forgets.cons (by first | (simp only [look, ↓reduceIte, Nat.reduceEqDiff]; done) | (simp only [look, ↓reduceIte, Nat.reduceEqDiff]; rfl) | simp [look]) ?_) rfl ?_
  rintro ⟨k, M, H1⟩ ⟨hk, hb, x1, l1, hm1, mi1⟩
  simp only [] at hk hb x1 l1 hm1 mi1 ⊢
  by_cases hlt : k < n
  · obtain ⟨g, o, e, cs, hve, hcs, hlen, hat⟩ := hv.at (by omega)
    cases hve
    obtain ⟨wk, hwk, hsk⟩ := hat k hlt
    obtain ⟨wp, wn, we, rfl⟩ := hsk.isSlice
    have hcs1 := x1.cells hcs
    have hdk := hd k
    have hDk := hD k hlt
    have htk := ht k hlt
    have hz32 := zb_length 32
    have hov : ovr ((zb 32).map U8) 0 ((D k).map U8) = (D k).map U8 := ovr_all _ _ (by rw [List.length_map, List.length_map, hdk, hz32])
    have htk32 : List.take 32 ((D k).map U8) = (D k).map U8 := List.take_of_length_le (by rw [List.length_map, hdk]; exact Nat.le_refl _)
    have hkk : IntKind.i64.wrap ((k : Int) + 1) = (k : Int) + 1 := wi64 _ (by omega) (by omega)
    iterate 1 ((repeat first | refine Qo ?_ | refine Qn ?_); (first | (refine QK (by kernel_rfl) ?_; intro K_ hK_; simp -implicitDefEqProofs (disch := (try simp only [sl]); try omega) only [sm,QJ,Qj,Qi,Qq,QC,bd,look,aput,QI,abin,anil,ty,↓reduceIte,Nat.reduceEqDiff,Nat.reduceAdd,Nat.reduceSub,Nat.reduceMul,Int.reduceLT,Int.reduceLE,Int.reduceNeg,Int.reduceToNat,reduceCtorEq,Nat.reduceBEq,Nat.reduceBNe,Qk,Qe,Value.cells,am,mm,keep, lv, bd, bda, hcs1, hwk, hlt]; refine hK_ _ _ ?_; clear hK_ K_; repeat first | refine QL ?_ | refine QM ?_)))
    repeat first | refine Qo ?_ | refine Qn ?_
    refine awp_if true rfl (by first | (simp only [aeval_tmp, look, ↓reduceIte, Nat.reduceEqDiff]; try rfl) | rfl) (fun _ => ?_) (fun h => absurd h (by decide))
    iterate 2 ((repeat first | refine Qo ?_ | refine Qn ?_); (first | (refine QK (by kernel_rfl) ?_; intro K_ hK_; simp -implicitDefEqProofs (disch := (try simp only [sl]); try omega) only [sm,QJ,Qj,Qi,Qq,QC,Qz,bd,QF,look,aput,Qm,Qb,QA,ty,↓reduceIte,Nat.reduceEqDiff,Nat.reduceAdd,Nat.reduceSub,Nat.reduceMul,Int.reduceLT,Int.reduceLE,Int.reduceNeg,Int.reduceToNat,reduceCtorEq,Nat.reduceBEq,Nat.reduceBNe,Qk,Qe,Value.cells,am,mm,keep, lv, bd, bda, hcs1, hwk, hlt]; refine hK_ _ _ ?_; clear hK_ K_; repeat first | refine QL ?_ | refine QM ?_) | (refine awp_skip ?_; repeat first | refine QL ?_ | refine QM ?_)))
    (repeat first | refine Qo ?_ | refine Qn ?_); refine QK (by kernel_rfl) ?_; intro K_ hK_; simp -implicitDefEqProofs (disch := (try simp only [sl]); try omega) only [sm,QJ,Qj,Qi,Qq,QC,bd,look,aput,Qm,ty,↓reduceIte,Nat.reduceEqDiff,Nat.reduceAdd,Nat.reduceSub,Nat.reduceMul,Int.reduceLT,Int.reduceLE,Int.reduceNeg,Int.reduceToNat,reduceCtorEq,Nat.reduceBEq,Nat.reduceBNe,Qk,Qe,Value.cells,am,mm,keep, lv, bd, bda, hcs1, hwk, hlt]
    refine ACalls.mono (sumf_calls _ _ _ (one_part (hsk.mono x1)) (by show 1 ≤ _; decide) (by rw [allB_one]; omega)) ?_
    rintro _ H2 ⟨rfl, e2⟩
    rw [allB_one, hDk]
    have x12 : Ext H1 H2 := (Ext.push _ _).trans e2
    clear e2
    try simp -implicitDefEqProofs (disch := (try simp only [sl]); try omega) only [sm,QJ,Qj,Qi,Qq,QC,bd,look,aput,Qm,ty,↓reduceIte,Nat.reduceEqDiff,Nat.reduceAdd,Nat.reduceSub,Nat.reduceMul,Int.reduceLT,Int.reduceLE,Int.reduceNeg,Int.reduceToNat,reduceCtorEq,Nat.reduceBEq,Nat.reduceBNe,Qk,Qe,Value.cells,am,mm,keep, bd, bda, hdk, hov, QO, hz32]
    try (refine hK_ _ _ ?_; clear hK_ K_; repeat first | refine QL ?_ | refine QM ?_)
    have q3 : (H2 ++ [ABlk.own ((D k).map U8)])[H2.length]? = some (.own ((D k).map U8)) := gpush _ _
    have x3 : Ext H1 (H2 ++ [ABlk.own ((D k).map U8)]) := x12.trans (Ext.push _ _)
    generalize H2 ++ [ABlk.own ((D k).map U8)] = H3 at *
    generalize H2.length = q at *
    have mi3 := mi1.mono x3
    have hm3 := x3 _ _ hm1
    obtain ⟨s0, p, es1, M2, ha1, os0, ha2, ha3, ha4⟩ := mi3.entry hm3 (Nat.lt_succ_self _) hdk
    have c3 := AH.cells_own q3
    have ls0 := alen_slnU (P := Try.prog) (T := 77) (by simp only [ty]) os0.sln
    have hix := idx_len D k (D k)
    iterate 1 ((repeat first | refine Qo ?_ | refine Qn ?_); (first | (refine QK (by kernel_rfl) ?_; intro K_ hK_; simp -implicitDefEqProofs (disch := (try simp only [sl]); try omega) only [sm,QJ,Qj,Qi,Qq,QC,Qz,bd,QF,look,aput,Qm,QA,ty,↓reduceIte,Nat.reduceEqDiff,Nat.reduceAdd,Nat.reduceSub,Nat.reduceMul,Int.reduceLT,Int.reduceLE,Int.reduceNeg,Int.reduceToNat,reduceCtorEq,Nat.reduceBEq,Nat.reduceBNe,Qk,Qe,Value.cells,am,mm,keep, bd, bda, hdk, c3, htk32, ha1, ls0]; refine hK_ _ _ ?_; clear hK_ K_; repeat first | refine QL ?_ | refine QM ?_)))
    have hmem : ∀ i, i ∈ idxD D k (D k) ↔ i < k ∧ D i = D k := fun i => mem_idx
    have hsrt := idx_srt D k (D k)
    generalize idxD D k (D k) = I0 at *
    have hsrt' : ∀ (y x : Nat) (hy : y < I0.length) (hx : x < I0.length), I0[y] < I0[x] → y < x := fun y x hy hx h => by
      rcases Nat.lt_trichotomy y x with q | q | q
      · exact q
      · subst q; omega
      · have := (List.pairwise_iff_getElem.1 hsrt) x y hx hy q
        omega
    have xH3 : Ext H H3 := x1.trans x3
    repeat first | refine Qo ?_ | refine Qn ?_
    refine awp_forK [0, 5, 6, 7, 8, 12, 13, 14, 24, 25] (fun x : Nat => [(26, I64 x)]) (fun x : Nat => H3) (fun x : Nat => x ≤ I0.length ∧ ∀ (y : Nat) (hy : y < I0.length), y < x → T I0[y] = T k) (fun x : Nat => I0.length - x) (0) (⟨Nat.zero_le _, fun y hy h => absurd h (by omega)⟩) (by repeat first | exact Forgets.nil | refine Forgets.cons (by first | (simp only [look, ↓reduceIte, Nat.reduceEqDiff]; done) | (simp only [look, ↓reduceIte, Nat.reduceEqDiff]; rfl) | simp [look]) ?_) rfl ?_
    rintro x ⟨hx, hT⟩
    by_cases hxl : x < I0.length
    · have hin := (hmem I0[x]).1 (List.getElem_mem hxl)
      obtain ⟨g2, hs0, hg2⟩ : ∃ g2, s0 = .slice (some ⟨g2, 0, none⟩) I0.length 1 ∧ H3[g2]? = some (.own (I0.map I64)) := by
        rcases os0 with ⟨_, h0, _⟩ | ⟨g2, h1, h2, _⟩
        · omega
        · exact ⟨g2, h1, h2⟩
      cases hs0
      have cg2 := AH.cells_own hg2
      have hcx : (I0.map I64)[x]? = some (I64 I0[x]) := by rw [List.getElem?_map, List.getElem?_eq_getElem hxl]; rfl
      have hTn : T I0[x] = T k → ∀ (y : Nat) (hy : y < I0.length), y < x + 1 → T I0[y] = T k := fun h y hy hyx => by
        by_cases e : y = x
        · subst e; exact h
        · exact hT y hy (by omega)
      have hbd : T I0[x] ≠ T k → ClS D T n (I0[x] : Int) (k : Int) true := fun h => .inl ⟨rfl, I0[x], k, hlt, hin.1, rfl, rfl, ⟨hin.2, h⟩, fun j hj hbj => by
        have hjm : j ∈ I0 := (hmem j).2 ⟨by omega, hbj.1⟩
        obtain ⟨y, hy, hye⟩ := List.getElem_of_mem hjm
        have hyx := hsrt' y x hy hxl (by rw [hye]; exact hj)
        exact hbj.2 (by rw [← hye]; exact hT y hy hyx), hb⟩
      generalize I0[x] = i at *
      obtain ⟨wi, hwi, hsi⟩ := hat i (by omega)
      have hcs3 := xH3.cells hcs
      have hii : IntKind.i64.wrap ((x : Int) + 1) = (x : Int) + 1 := wi64 _ (by omega) (by omega)
      have hin' : i < n := by omega
      iterate 1 ((repeat first | refine Qo ?_ | refine Qn ?_); (first | (refine QK (by kernel_rfl) ?_; intro K_ hK_; simp -implicitDefEqProofs (disch := (try simp only [sl]); try omega) only [sm,QJ,Qj,Qi,Qq,QC,bd,look,aput,QI,abin,anil,ty,↓reduceIte,Nat.reduceEqDiff,Nat.reduceAdd,Nat.reduceSub,Nat.reduceMul,Int.reduceLT,Int.reduceLE,Int.reduceNeg,Int.reduceToNat,reduceCtorEq,Nat.reduceBEq,Nat.reduceBNe,Qk,Qe,Value.cells,am,mm,keep, bd, bda, cg2, hcx, hcs3, hwi, hin', Nat.zero_add, Nat.mul_one, List.length_map, hxl]; refine hK_ _ _ ?_; clear hK_ K_; repeat first | refine QL ?_ | refine QM ?_)))
      repeat first | refine Qo ?_ | refine Qn ?_
      refine awp_if true rfl (by first | (simp only [aeval_tmp, look, ↓reduceIte, Nat.reduceEqDiff]; try rfl) | rfl) (fun _ => ?_) (fun h => absurd h (by decide))
      iterate 2 ((repeat first | refine Qo ?_ | refine Qn ?_); (first | (refine QK (by kernel_rfl) ?_; intro K_ hK_; simp -implicitDefEqProofs (disch := (try simp only [sl]); try omega) only [sm,QJ,Qj,Qi,Qq,QC,Qz,bd,QF,look,aput,Qm,QG,Qb,QA,ty,↓reduceIte,Nat.reduceEqDiff,Nat.reduceAdd,Nat.reduceSub,Nat.reduceMul,Int.reduceLT,Int.reduceLE,Int.reduceNeg,Int.reduceToNat,reduceCtorEq,Nat.reduceBEq,Nat.reduceBNe,Qk,Qe,Value.cells,am,mm,keep, bd, bda, cg2, hcx, hcs3, hwi, hin', Nat.zero_add, Nat.mul_one, List.length_map, hxl]; refine hK_ _ _ ?_; clear hK_ K_; repeat first | refine QL ?_ | refine QM ?_) | (refine awp_skip ?_; repeat first | refine QL ?_ | refine QM ?_)))
      (repeat first | refine Qo ?_ | refine Qn ?_); refine QK (by kernel_rfl) ?_; intro K_ hK_; simp -implicitDefEqProofs (disch := (try simp only [sl]); try omega) only [sm,QJ,Qj,Qi,Qq,QC,Qz,bd,QF,look,aput,Qm,QG,Qb,QA,ty,↓reduceIte,Nat.reduceEqDiff,Nat.reduceAdd,Nat.reduceSub,Nat.reduceMul,Int.reduceLT,Int.reduceLE,Int.reduceNeg,Int.reduceToNat,reduceCtorEq,Nat.reduceBEq,Nat.reduceBNe,Qk,Qe,Value.cells,am,mm,keep, bd, bda, cg2, hcx, hcs3, hwi, hin', Nat.zero_add, Nat.mul_one, List.length_map, hxl]
      refine ACalls.mono (bequal_calls wi _ (T i) (T k) H3 (hsi.mono xH3) (hsk.mono xH3)) ?_
      rintro _ _ ⟨rfl, hHH⟩
      rw [hHH]
      clear hHH
      simp -implicitDefEqProofs (disch := (try simp only [sl]); try omega) only [sm,QJ,Qj,Qi,Qq,QC,Qz,bd,QF,look,aput,Qm,QG,Qb,QA,ty,↓reduceIte,Nat.reduceEqDiff,Nat.reduceAdd,Nat.reduceSub,Nat.reduceMul,Int.reduceLT,Int.reduceLE,Int.reduceNeg,Int.reduceToNat,reduceCtorEq,Nat.reduceBEq,Nat.reduceBNe,Qk,Qe,Value.cells,am,mm,keep, bd, bda, cg2, hcx, hcs3, hwi, hin', Nat.zero_add, Nat.mul_one, List.length_map]
      try (refine hK_ _ _ ?_; clear hK_ K_; repeat first | refine QL ?_ | refine QM ?_)
      by_cases hTT : T i = T k
      · have hTd : decide (T i = T k) = true := decide_eq_true hTT
        try simp -implicitDefEqProofs (disch := (try simp only [sl]); try omega) only [sm,QJ,Qj,Qi,Qq,QC,Qz,bd,QF,look,aput,Qm,QG,Qb,QA,ty,↓reduceIte,Nat.reduceEqDiff,Nat.reduceAdd,Nat.reduceSub,Nat.reduceMul,Int.reduceLT,Int.reduceLE,Int.reduceNeg,Int.reduceToNat,reduceCtorEq,Nat.reduceBEq,Nat.reduceBNe,Qk,Qe,Value.cells,am,mm,keep, bd, bda, cg2, hcx, hcs3, hwi, hin', Nat.zero_add, Nat.mul_one, List.length_map, hTd, Bool.not_true]
        try (refine hK_ _ _ ?_; clear hK_ K_; repeat first | refine QL ?_ | refine QM ?_)
        repeat first | refine Qo ?_ | refine Qn ?_
        refine awp_if false rfl (by first | (simp only [aeval_tmp, look, ↓reduceIte, Nat.reduceEqDiff]; try rfl) | rfl) (fun h => absurd h (by decide)) (fun _ => ?_)
        iterate 2 ((repeat first | refine Qo ?_ | refine Qn ?_); (first | (refine QK (by kernel_rfl) ?_; intro K_ hK_; simp -implicitDefEqProofs (disch := (try simp only [sl]); try omega) only [sm,QJ,Qj,Qi,Qq,QC,bd,look,aput,QI,abin,anil,ty,↓reduceIte,Nat.reduceEqDiff,Nat.reduceAdd,Nat.reduceSub,Nat.reduceMul,Int.reduceLT,Int.reduceLE,Int.reduceNeg,Int.reduceToNat,reduceCtorEq,Nat.reduceBEq,Nat.reduceBNe,Qk,Qe,Value.cells,am,mm,keep, bd, bda, cg2, hcx, hcs3, hwi, hin', Nat.zero_add, Nat.mul_one, List.length_map, hii]; refine hK_ _ _ ?_; clear hK_ K_; repeat first | refine QL ?_ | refine QM ?_) | (refine awp_skip ?_; repeat first | refine QL ?_ | refine QM ?_)))
        refine ⟨x + 1, ⟨by omega, hTn hTT⟩, (by repeat first | exact Forgets.nil | refine Forgets.cons (by first | (simp only [look, ↓reduceIte, Nat.reduceEqDiff]; done) | (simp only [look, ↓reduceIte, Nat.reduceEqDiff]; rfl) | simp [look, hii]) ?_), ?_⟩
        first | omega | exact ⟨rfl, by omega⟩ | exact ⟨rfl, by simp only []; omega⟩ | (simp only []; omega)
      · have hTd : decide (T i = T k) = false := decide_eq_false hTT
        try simp -implicitDefEqProofs (disch := (try simp only [sl]); try omega) only [sm,QJ,Qj,Qi,Qq,QC,Qz,bd,QF,look,aput,Qm,QG,Qb,QA,ty,↓reduceIte,Nat.reduceEqDiff,Nat.reduceAdd,Nat.reduceSub,Nat.reduceMul,Int.reduceLT,Int.reduceLE,Int.reduceNeg,Int.reduceToNat,reduceCtorEq,Nat.reduceBEq,Nat.reduceBNe,Qk,Qe,Value.cells,am,mm,keep, bd, bda, cg2, hcx, hcs3, hwi, hin', Nat.zero_add, Nat.mul_one, List.length_map, hTd, Bool.not_false]
        try (refine hK_ _ _ ?_; clear hK_ K_; repeat first | refine QL ?_ | refine QM ?_)
        repeat first | refine Qo ?_ | refine Qn ?_
        refine awp_if true rfl (by first | (simp only [aeval_tmp, look, ↓reduceIte, Nat.reduceEqDiff]; try rfl) | rfl) (fun _ => ?_) (fun h => absurd h (by decide))
        iterate 1 ((repeat first | refine Qo ?_ | refine Qn ?_); (first | (refine QK (by kernel_rfl) ?_; intro K_ hK_; simp -implicitDefEqProofs (disch := (try simp only [sl]); try omega) only [sm,QJ,Qj,Qi,Qq,QC,bd,look,aput,ty,↓reduceIte,Nat.reduceEqDiff,Nat.reduceAdd,Nat.reduceSub,Nat.reduceMul,Int.reduceLT,Int.reduceLE,Int.reduceNeg,Int.reduceToNat,reduceCtorEq,Nat.reduceBEq,Nat.reduceBNe,Qk,Qe,Value.cells,am,mm,keep, bd, bda, cg2, hcx, hcs3, hwi, hin', Nat.zero_add, Nat.mul_one, List.length_map]; refine hK_ _ _ ?_; clear hK_ K_; repeat first | refine QL ?_ | refine QM ?_)))
        first | refine awp_ret ?_ | skip
        show ∃ v, aresults Try.prog Try.f23 _ _ = some v ∧ _
        rw [aresults_3 (r := .tmp 2) (s := .tmp 3) (u := .tmp 4) (by kernel_rfl)]
        simp -implicitDefEqProofs (disch := (try simp only [sl]); try omega) only [aresult, Option.some.injEq, exists_eq_left', sm,Qj,Qi,Qq,QC,Qz,bd,QF,look,aput,QB,Qf,QA,ty,↓reduceIte,Nat.reduceEqDiff,Nat.reduceAdd,Nat.reduceSub,Nat.reduceMul,Int.reduceLT,Int.reduceLE,Int.reduceNeg,Int.reduceToNat,reduceCtorEq,Nat.reduceBEq,Nat.reduceBNe,Qk,Qe,Value.cells,am,mm,keep, bd, bda, cg2, hcx, hcs3, hwi, hin', Nat.zero_add, Nat.mul_one, List.length_map]
        exact ⟨⟨_, _, _, rfl, hbd hTT⟩, xH3⟩
    obtain rfl : x = I0.length := by omega
    have hnb : noBad D T k := fun j hj hbj => by
      obtain ⟨y, hy, hye⟩ := List.getElem_of_mem ((hmem j).2 ⟨hj, hbj.1⟩)
      exact hbj.2 (by rw [← hye]; exact hT y hy hy)
    have hb' : ∀ k', k' < k + 1 → noBad D T k' := fun k' h => (Nat.lt_succ_iff_lt_or_eq.1 h).elim (hb k') (fun e => e ▸ hnb)
    have l3 := xH3.length
    have l13 := x3.length
    have hsl3 : (H3.set H.length (.map es1)).length = H3.length := List.length_set
    have os3 : OSn 1 (H.length + 1) (H3.set H.length (.map es1)) s0 I0.length (I0.map I64) := os0.keepb fun q o m e _ hq y hy => by rw [List.getElem?_set_ne (by omega)]; exact hy
    obtain ⟨s5, H5, ha5, o5, ke5, on5⟩ := OSn.app1 (P := Try.prog) (t := 77) (tx := 77) (bytes := 8) (c := [I64 k]) hel hsl os3 (by rw [List.length_map]; omega) rfl rfl (by decide) (by omega) (by omega) (by omega)
    rw [hsl3] at ha5 o5
    have g5 : H5[H.length]? = some (.map es1) := on5 _ _ (fun o m e k2 => by
      have := (os3.lt _ _ _ _ k2).2
      omega) (by rw [List.getElem?_set_self (by omega)])
    have ha6 := ha3 H5 s5 g5
    have ha2' := ha2 [I64 k]
    have mi5 := ha4 H5 s5 o5 (by omega) fun q y hq hqg hy => on5 q y hq (by rw [List.getElem?_set_ne (by omega)]; exact hy)
    have l5 : H3.length ≤ H5.length := by have := ke5.1; omega
    have x5 : Ext H H5 := ke5.ext (by omega) (xH3.set _ (Nat.le_refl _))
    have mi6 : MI (H.length + 1) (H5.set H.length (.map (entM (M2 s5)))) D (k + 1) (M2 s5) := mi5.keep fun q y hq hy => by rw [List.getElem?_set_ne (by omega)]; exact hy
    have g6 : (H5.set H.length (.map (entM (M2 s5))))[H.length]? = some (.map (entM (M2 s5))) := List.getElem?_set_self (by omega)
    have l6 : H.length + 1 ≤ (H5.set H.length (.map (entM (M2 s5)))).length := by rw [List.length_set]; omega
    iterate 1 ((repeat first | refine Qo ?_ | refine Qn ?_); (first | (refine QK (by kernel_rfl) ?_; intro K_ hK_; simp -implicitDefEqProofs (disch := (try simp only [sl]); try omega) only [sm,QJ,Qj,Qi,Qq,QC,bd,look,aput,QI,abin,anil,ty,↓reduceIte,Nat.reduceEqDiff,Nat.reduceAdd,Nat.reduceSub,Nat.reduceMul,Int.reduceLT,Int.reduceLE,Int.reduceNeg,Int.reduceToNat,reduceCtorEq,Nat.reduceBEq,Nat.reduceBNe,Qk,Qe,Value.cells,am,mm,keep, bd, bda, hdk, c3, htk32, ha2', ha5, ha6, hxl]; refine hK_ _ _ ?_; clear hK_ K_; repeat first | refine QL ?_ | refine QM ?_)))
    repeat first | refine Qo ?_ | refine Qn ?_
    refine awp_if false rfl (by first | (simp only [aeval_tmp, look, ↓reduceIte, Nat.reduceEqDiff]; try rfl) | rfl) (fun h => absurd h (by decide)) (fun _ => ?_)
    iterate 3 ((repeat first | refine Qo ?_ | refine Qn ?_); (first | (refine QK (by kernel_rfl) ?_; intro K_ hK_; simp -implicitDefEqProofs (disch := (try simp only [sl]); try omega) only [sm,QJ,Qj,Qi,Qq,QC,Qz,bd,QF,look,aput,Qm,QI,abin,anil,QA,Qh,ty,↓reduceIte,Nat.reduceEqDiff,Nat.reduceAdd,Nat.reduceSub,Nat.reduceMul,Int.reduceLT,Int.reduceLE,Int.reduceNeg,Int.reduceToNat,reduceCtorEq,Nat.reduceBEq,Nat.reduceBNe,Qk,Qe,Value.cells,am,mm,keep, bd, bda, hdk, c3, htk32, ha2', ha5, ha6, hkk]; refine hK_ _ _ ?_; clear hK_ K_; repeat first | refine QL ?_ | refine QM ?_) | (refine awp_exit ?_; (repeat first | refine aThen_exit ?_ | refine aIn_out rfl ?_); refine aIn_here ?_; repeat first | refine QL ?_ | refine QM ?_)))
    refine ⟨(k + 1, M2 s5, H5.set H.length (.map (entM (M2 s5)))), ⟨by simp only []; omega, hb', x5.set _ (Nat.le_refl _), l6, g6, mi6⟩, (by repeat first | exact Forgets.nil | refine Forgets.cons (by first | (simp only [look, ↓reduceIte, Nat.reduceEqDiff]; done) | (simp only [look, ↓reduceIte, Nat.reduceEqDiff]; rfl) | simp [look, hkk]) ?_), ?_⟩
    first | omega | exact ⟨rfl, by omega⟩ | exact ⟨rfl, by simp only []; omega⟩ | (simp only []; omega)
  obtain rfl : k = n := by omega
  iterate 1 ((repeat first | refine Qo ?_ | refine Qn ?_); (first | (refine QK (by kernel_rfl) ?_; intro K_ hK_; simp -implicitDefEqProofs (disch := (try simp only [sl]); try omega) only [sm,QJ,Qj,Qi,Qq,QC,bd,look,aput,QI,abin,anil,ty,↓reduceIte,Nat.reduceEqDiff,Nat.reduceAdd,Nat.reduceSub,Nat.reduceMul,Int.reduceLT,Int.reduceLE,Int.reduceNeg,Int.reduceToNat,reduceCtorEq,Nat.reduceBEq,Nat.reduceBNe,Qk,Qe,Value.cells,am,mm,keep, lv, hlt]; refine hK_ _ _ ?_; clear hK_ K_; repeat first | refine QL ?_ | refine QM ?_)))
  repeat first | refine Qo ?_ | refine Qn ?_
  refine awp_if false rfl (by first | (simp only [aeval_tmp, look, ↓reduceIte, Nat.reduceEqDiff]; try rfl) | rfl) (fun h => absurd h (by decide)) (fun _ => ?_)
  iterate 2 ((repeat first | refine Qo ?_ | refine Qn ?_); (first | (refine QK (by kernel_rfl) ?_; intro K_ hK_; simp -implicitDefEqProofs (disch := (try simp only [sl]); try omega) only [sm,QJ,Qj,Qi,Qq,QC,bd,look,aput,ty,↓reduceIte,Nat.reduceEqDiff,Nat.reduceAdd,Nat.reduceSub,Nat.reduceMul,Int.reduceLT,Int.reduceLE,Int.reduceNeg,Int.reduceToNat,reduceCtorEq,Nat.reduceBEq,Nat.reduceBNe,Qk,Qe,Value.cells,am,mm,keep, lv]; refine hK_ _ _ ?_; clear hK_ K_; repeat first | refine QL ?_ | refine QM ?_) | (refine awp_exit ?_; (repeat first | refine aThen_exit ?_ | refine aIn_out rfl ?_); refine aIn_here ?_; repeat first | refine QL ?_ | refine QM ?_)))
  first | refine awp_ret ?_ | skip
  show ∃ v, aresults Try.prog Try.f23 _ _ = some v ∧ _
  rw [aresults_3 (r := .tmp 2) (s := .tmp 3) (u := .tmp 4) (by kernel_rfl)]
  simp -implicitDefEqProofs (disch := (try simp only [sl]); try omega) only [aresult, Option.some.injEq, exists_eq_left', sm,Qj,Qi,Qq,QC,Qz,bd,QF,look,aput,QB,Qf,QA,ty,↓reduceIte,Nat.reduceEqDiff,Nat.reduceAdd,Nat.reduceSub,Nat.reduceMul,Int.reduceLT,Int.reduceLE,Int.reduceNeg,Int.reduceToNat,reduceCtorEq,Nat.reduceBEq,Nat.reduceBNe,Qk,Qe,Value.cells,am,mm,keep, lv]
  exact ⟨⟨0, 0, false, rfl, .inr ⟨rfl, rfl, rfl, hb⟩⟩, x1⟩
end Go.Proofs.Ytpiaohajbbdpdaa
