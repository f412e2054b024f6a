/- attr: what the document says of Parse. -/
import Derived.Test.YtfdpmffcdafmgaaDoorAt7
namespace Go.Proofs.YtfdpmffcdafmgaaDoor
open Go Go.RowKit
--hide
set_option linter.unusedSimpArgs false
set_option linter.unusedVariables false
set_option maxRecDepth 4000
theorem in_min {page : List UInt8} (i : Nat) : textIn (cN page i) = (page.drop (1 + 48 * i + 1)).take (min (page.getD (1 + 48 * i) 0).toNat 15) ∧ textIn (cV page i) = (page.drop (1 + 48 * i + 17)).take (min (page.getD (1 + 48 * i + 16) 0).toNat 31) := by
  have gd : ∀ (b : List UInt8) (k p : Nat), 0 < p → ((b.drop k).take p).getD 0 0 = b.getD k 0 := fun b k p hp => by
    simp only [List.getD_eq_getElem?_getD, List.getElem?_take, if_pos hp, List.getElem?_drop, Nat.add_zero]
  constructor
  · rw [textIn, cN, gd _ _ _ (by decide), List.drop_take, List.drop_drop, List.take_take]
  · rw [textIn, cV, gd _ _ _ (by decide), List.drop_take, List.drop_drop, List.take_take]
set_option maxHeartbeats 16000000 in
theorem refpparse_calls (v : Value) (page : List UInt8) (H : AH) (hv : SL H v (page.map U8)) (hm : page.length ≤ 1000) :
    ACalls Tryd.prog 13 #[v] H fun w H' => (∃ x, w = .tuple #[x, .int .i64 (paE page)] ∧ OSn 2 H.length H' x (paL page).length (flP (paL page))) ∧ Ext H H' := by
  have lv := alen_sl (P := Tryd.prog) (T := 23) (by simp only [ty]) hv
  rw [List.length_map] at lv
  have hbl : ∀ l : List UInt8, (⟨l.toArray⟩ : ByteArray) = bs l := fun _ => rfl
  have fo_ : True := trivial
  have N_ := Now.start H
  have f_ := N_.has
  simp only [Has] at f_
  refine acalls_of_body Tryd.func13 rfl Tryd.ntmps13 (by simp) ?_
  simp only [argsT, Nat.reduceAdd]
  iterate 1 ((repeat first | refine Qo ?_ | refine Qn ?_); (first | (refine QK (by kernel_rfl) ?_; intro K_ hK_; simp -implicitDefEqProofs (disch := (try simp only [sl]); try omega) only [sm,QJ,Qj,Qi,Qq,QC,bd,look,aput,ty,↓reduceIte,Nat.reduceEqDiff,Nat.reduceAdd,Nat.reduceSub,Nat.reduceMul,Int.reduceLT,Int.reduceLE,Int.reduceNeg,Int.reduceToNat,reduceCtorEq,Nat.reduceBEq,Nat.reduceBNe,Qk,Qe,Value.cells,am,mm,keep, f_, fo_, aint, lv]; refine hK_ _ _ ?_; clear hK_ K_; repeat first | refine QL ?_ | refine QM ?_)))
  by_cases hl : page.length = 256
  · have hb : ((page.length : Int) != 256) = false := by rw [hl]; rfl
    obtain ⟨gv, ov, ev, cv, rfl, hcv, hgv, hlv, hkv, hkv0⟩ := hv.bytes (by omega)
    have hn8 := (page.getD 0 0).toNat_lt
    have hnB : (page.getD 0 0).toNat = nB page := rfl
    rw [hnB] at hkv0 hn8
    iterate 1 ((repeat first | refine Qo ?_ | refine Qn ?_); (first | (refine QK (by kernel_rfl) ?_; intro K_ hK_; simp -implicitDefEqProofs (disch := (try simp only [sl]); try omega) only [sm,QJ,Qj,Qi,Qq,QC,bd,look,aput,QI,abin,anil,ty,↓reduceIte,Nat.reduceEqDiff,Nat.reduceAdd,Nat.reduceSub,Nat.reduceMul,Int.reduceLT,Int.reduceLE,Int.reduceNeg,Int.reduceToNat,reduceCtorEq,Nat.reduceBEq,Nat.reduceBNe,Qk,Qe,Value.cells,am,mm,keep, f_, fo_, aint, lv, hb]; refine hK_ _ _ ?_; clear hK_ K_; repeat first | refine QL ?_ | refine QM ?_)))
    repeat first | refine Qo ?_ | refine Qn ?_
    refine awp_if false rfl (by simp only [aeval_tmp, look, ↓reduceIte, Nat.reduceEqDiff]; try rfl) (fun h => absurd h (by decide)) (fun _ => ?_)
    iterate 3 ((repeat first | refine Qo ?_ | refine Qn ?_); (first | (refine QK (by kernel_rfl) ?_; intro K_ hK_; simp -implicitDefEqProofs (disch := (try simp only [sl]); try omega) only [sm,QJ,Qj,Qi,Qq,QC,bd,look,aput,ty,↓reduceIte,Nat.reduceEqDiff,Nat.reduceAdd,Nat.reduceSub,Nat.reduceMul,Int.reduceLT,Int.reduceLE,Int.reduceNeg,Int.reduceToNat,reduceCtorEq,Nat.reduceBEq,Nat.reduceBNe,Qk,Qe,Value.cells,am,mm,keep, f_, fo_, aint, lv]; refine hK_ _ _ ?_; clear hK_ K_; repeat first | refine QL ?_ | refine QM ?_) | (refine awp_skip ?_; repeat first | refine QL ?_ | refine QM ?_)))
    repeat first | refine Qo ?_ | refine Qn ?_
    refine awp_forK [0] (fun x : Nat × Value × AH => [(5, I64 x.1), (4, x.2.1)]) (fun x : Nat × Value × AH => x.2.2) (fun x : Nat × Value × AH => x.1 ≤ min (nB page) 5 ∧ OSn 2 H.length x.2.2 x.2.1 x.1 (flP (lsA page x.1)) ∧ Ext H x.2.2) (fun x : Nat × Value × AH => 5 - x.1) ((0, .slice none 0 0, H)) (⟨Nat.zero_le _, OSn.none _, Ext.refl _⟩) (by repeat first | exact Forgets.nil | refine Forgets.cons (by first | (simp only [look, ↓reduceIte, Nat.reduceEqDiff]; done) | (simp only [look, ↓reduceIte, Nat.reduceEqDiff]; rfl) | simp [look]) ?_) rfl ?_
    rintro ⟨i, s, H2⟩ ⟨hi, o2, x2⟩
    simp only [] at hi o2 x2 ⊢
    clear f_ N_
    have N_ : Now H H2 [] := ⟨x2, trivial⟩
    have f_ := N_.has
    simp only [Has] at f_
    have hc2 := x2.cells hcv
    have hwn : IntKind.i64.wrap (nB page : Int) = (nB page : Int) := wi64 _ (by omega) (by omega)
    by_cases hlt : i < min (nB page) 5
    · have e1 : (i : Int) < (nB page : Int) := by omega
      have e2 : (i : Int) < 5 := by omega
      have hii : IntKind.i64.wrap ((i : Int) + 1) = (i : Int) + 1 := wi64 _ (by omega) (by omega)
      have m1 : IntKind.i64.wrap (48 * (i : Int)) = ((48 * i : Nat) : Int) := by rw [wi64 _ (by omega) (by omega)]; omega
      have m2 : IntKind.i64.wrap (1 + ((48 * i : Nat) : Int)) = ((1 + 48 * i : Nat) : Int) := by rw [wi64 _ (by omega) (by omega)]; omega
      have k1 := hkv (1 + 48 * i) (by omega)
      have k2 := hkv (1 + 48 * i + 16) (by omega)
      obtain ⟨t1, t2⟩ := in_min (page := page) i
      have hpr : prA page i = (textIn (cN page i), textIn (cV page i)) := rfl
      have hsu := lsA_succ page i
      have q1 := (page.getD (1 + 48 * i) 0).toNat_lt
      have q2 := (page.getD (1 + 48 * i + 16) 0).toNat_lt
      generalize (page.getD (1 + 48 * i) 0).toNat = a1 at *
      generalize (page.getD (1 + 48 * i + 16) 0).toNat = a2 at *
      have ha1 : IntKind.i64.wrap (a1 : Int) = (a1 : Int) := wi64 _ (by omega) (by omega)
      have ha2 : IntKind.i64.wrap (a2 : Int) = (a2 : Int) := wi64 _ (by omega) (by omega)
      obtain ⟨n1, hn1⟩ : ∃ n, n = min a1 15 := ⟨_, rfl⟩
      obtain ⟨n2, hn2⟩ : ∃ n, n = min a2 31 := ⟨_, rfl⟩
      rw [← hn1] at t1
      rw [← hn2] at t2
      have hmn1 : (if (15 : Int) < (a1 : Int) then (15 : Int) else (a1 : Int)) = (n1 : Int) := by split <;> omega
      have hmn2 : (if (31 : Int) < (a2 : Int) then (31 : Int) else (a2 : Int)) = (n2 : Int) := by split <;> omega
      have b1 : n1 ≤ 15 := by omega
      have b2 : n2 ≤ 31 := by omega
      have s1 : SL H2 (.slice (some ⟨gv, ov + (1 + 48 * i + 1), none⟩) n1 (if ev = 1 then ev else 0)) ((textIn (cN page i)).map U8) := by rw [t1]; exact (hv.mono x2).subm (1 + 48 * i + 1) n1 _ (by omega)
      have s2 : SL H2 (.slice (some ⟨gv, ov + (1 + 48 * i + 17), none⟩) n2 (if ev = 1 then ev else 0)) ((textIn (cV page i)).map U8) := by rw [t2]; exact (hv.mono x2).subm (1 + 48 * i + 17) n2 _ (by omega)
      have w1 : IntKind.i64.wrap (((1 + 48 * i : Nat) : Int) + 1) = ((1 + 48 * i + 1 : Nat) : Int) := by rw [wi64 _ (by omega) (by omega)]; omega
      have w16 : IntKind.i64.wrap (((1 + 48 * i : Nat) : Int) + 16) = ((1 + 48 * i + 16 : Nat) : Int) := by rw [wi64 _ (by omega) (by omega)]; omega
      have w17 : IntKind.i64.wrap (((1 + 48 * i : Nat) : Int) + 17) = ((1 + 48 * i + 17 : Nat) : Int) := by rw [wi64 _ (by omega) (by omega)]; omega
      have v1 : IntKind.i64.wrap (((1 + 48 * i + 1 : Nat) : Int) + (n1 : Int)) = ((1 + 48 * i + 1 + n1 : Nat) : Int) := by rw [wi64 _ (by omega) (by omega)]; omega
      have v2 : IntKind.i64.wrap (((1 + 48 * i + 17 : Nat) : Int) + (n2 : Int)) = ((1 + 48 * i + 17 + n2 : Nat) : Int) := by rw [wi64 _ (by omega) (by omega)]; omega
      have d1 : 1 + 48 * i + 1 + n1 - (1 + 48 * i + 1) = n1 := by omega
      have d2 : 1 + 48 * i + 17 + n2 - (1 + 48 * i + 17) = n2 := by omega
      have l1 : 1 + 48 * i + 1 ≤ 1 + 48 * i + 1 + n1 := by omega
      have l2 : 1 + 48 * i + 17 ≤ 1 + 48 * i + 17 + n2 := by omega
      have g1 : 1 + 48 * i + 1 + n1 ≤ page.length := by omega
      have g2 : 1 + 48 * i + 17 + n2 ≤ page.length := by omega
      have p1 : 1 + 48 * i + 1 < page.length := by omega
      have p2 : 1 + 48 * i + 17 < page.length := by omega
      have p3 : 1 + 48 * i < page.length := by omega
      have p4 : 1 + 48 * i + 16 < page.length := by omega
      iterate 1 ((repeat first | refine Qo ?_ | refine Qn ?_); (first | (refine QK (by kernel_rfl) ?_; intro K_ hK_; simp -implicitDefEqProofs (disch := (try simp only [sl]); try omega) only [sm,QJ,Qj,Qi,Qq,QC,Qz,bd,QF,look,aput,QH,Qg,QI,abin,anil,Qb,QA,ty,↓reduceIte,Nat.reduceEqDiff,Nat.reduceAdd,Nat.reduceSub,Nat.reduceMul,Int.reduceLT,Int.reduceLE,Int.reduceNeg,Int.reduceToNat,reduceCtorEq,Nat.reduceBEq,Nat.reduceBNe,Qk,Qe,Value.cells,am,mm,keep, f_, fo_, aint, lv, hc2, hkv0, hwn, hbl, e1, e2]; refine hK_ _ _ ?_; clear hK_ K_; repeat first | refine QL ?_ | refine QM ?_)))
      repeat first | refine Qo ?_ | refine Qn ?_
      refine awp_if true rfl (by simp only [aeval_tmp, look, ↓reduceIte, Nat.reduceEqDiff]; try rfl) (fun _ => ?_) (fun h => absurd h (by decide))
      iterate 2 ((repeat first | refine Qo ?_ | refine Qn ?_); (first | (refine QK (by kernel_rfl) ?_; intro K_ hK_; simp -implicitDefEqProofs (disch := (try simp only [sl]); try omega) only [sm,QJ,Qj,Qi,Qq,QC,bd,look,aput,QI,abin,anil,ty,↓reduceIte,Nat.reduceEqDiff,Nat.reduceAdd,Nat.reduceSub,Nat.reduceMul,Int.reduceLT,Int.reduceLE,Int.reduceNeg,Int.reduceToNat,reduceCtorEq,Nat.reduceBEq,Nat.reduceBNe,Qk,Qe,Value.cells,am,mm,keep, f_, fo_, aint, lv, hc2, hkv0, hwn, hbl, m1, m2]; refine hK_ _ _ ?_; clear hK_ K_; repeat first | refine QL ?_ | refine QM ?_) | (refine awp_skip ?_; repeat first | refine QL ?_ | refine QM ?_)))
      iterate 1 ((repeat first | refine Qo ?_ | refine Qn ?_); (first | (refine awp_region_drawK (id := 8) [(0, []), (1, []), (2, []), (3, []), (4, []), (5, []), (6, []), (7, []), (8, []), (9, []), (10, []), (11, []), (12, []), (13, []), (14, [])] mixed (by kernel_rfl) ?_; intro K_ hK_; simp -implicitDefEqProofs (disch := (try simp only [sl]); try omega) only [sm,aSel,Qu,Qv,Qw,Qx,Qy,Qj,Qi,Qq,QC,Qz,bd,QF,look,aput,QH,Qg,QI,abin,anil,Qb,QA,Ql,QD,QE,ty,↓reduceIte,Nat.reduceEqDiff,Nat.reduceAdd,Nat.reduceSub,Nat.reduceMul,Int.reduceLT,Int.reduceLE,Int.reduceNeg,Int.reduceToNat,reduceCtorEq,Nat.reduceBEq,Nat.reduceBNe,Qk,Qe,Value.cells,am,mm,keep, f_, fo_, aint, lv, hc2, hkv0, hwn, hbl, k1, k2, ha1, ha2, hmn1, hmn2, w16, p3, p4]; refine hK_ _ _ ?_; clear hK_ K_; repeat first | refine QL ?_ | refine QM ?_)))
      have v10 : IntKind.i64.wrap (((1 + 48 * i + 1 : Nat) : Int) + 0) = ((1 + 48 * i + 1 : Nat) : Int) := by rw [Int.add_zero, wi64 _ (by omega) (by omega)]
      have v20 : IntKind.i64.wrap (((1 + 48 * i + 17 : Nat) : Int) + 0) = ((1 + 48 * i + 17 : Nat) : Int) := by rw [Int.add_zero, wi64 _ (by omega) (by omega)]
      have g10 : 1 + 48 * i + 1 ≤ page.length := by omega
      have g20 : 1 + 48 * i + 17 ≤ page.length := by omega
      obtain ⟨xx, hxx⟩ : ∃ x : Pr, x = (textIn (cN page i), textIn (cV page i)) := ⟨_, rfl⟩
      rw [hpr, ← hxx] at hsu
      have hfl := flP_length (lsA page i)
      rw [lsA_length] at hfl
      obtain ⟨s5, H5, ha5, o5, k5, -⟩ := OSn.app1 (P := Tryd.prog) (t := 22) (tx := 22) (bytes := 32) (H := H2) (c := prc xx) (by simp only [ty]) (by simp only [ty]) o2 hfl (prc_length xx) (prc_cellv xx) (by decide) (by omega) (by omega) x2.length
      rw [← flP_snoc, ← hsu] at o5
      have x5 : Ext H H5 := k5.ext (Nat.le_refl _) x2
      have hbs : ∀ a b : ByteArray, abuildS Tryd.prog 22 1 [(0, .agg #[.string a, .string b])] = some ([.string a, .string b], 2) := by intro a b; kernel_rfl
      clear t1 t2 hpr
      generalize textIn (cN page i) = T1 at *
      generalize textIn (cV page i) = T2 at *
      simp only [hxx, prc] at ha5
      clear hmn1 hmn2 hn1 hn2
      rcases s1.cv with ⟨j1, _⟩ | ⟨g1', o1, e1', j1, rfl⟩ | ⟨g1', o1, e1', cs1, j1, hf1⟩
      · cases j1
      all_goals
        have hk1 := True.intro
        cases j1
        try (obtain ⟨qq, rr⟩ := hf1; rw [hc2] at qq; cases qq; have hk1 := rr)
        rcases s2.cv with ⟨j2, _⟩ | ⟨g2', o2', e2', j2, rfl⟩ | ⟨g2', o2', e2', cs2, j2, hf2⟩
        · cases j2
        all_goals
          have hk2 := True.intro
          cases j2
          try (obtain ⟨qq, rr⟩ := hf2; rw [hc2] at qq; cases qq; have hk2 := rr)
          iterate 2 ((repeat first | refine Qo ?_ | refine Qn ?_); (first | ((first | refine awp_region_drawK (id := 9) [(0, []), (1, []), (2, []), (3, []), (4, []), (5, []), (6, []), (7, []), (8, []), (9, []), (10, []), (11, []), (12, []), (13, []), (14, []), (15, []), (16, []), (17, []), (18, []), (19, []), (20, []), (21, []), (22, [])] mixed (by kernel_rfl) ?_ | refine QK (by kernel_rfl) ?_); intro K_ hK_; simp -implicitDefEqProofs (disch := (try simp only [sl]); try omega) only [sm,QJ,aSel,Qu,Qv,Qw,Qx,Qy,Qj,Qi,Qq,QC,Qz,bd,QF,look,aput,Qm,QH,Qg,QI,abin,anil,Qr,loN,hiN,ty,↓reduceIte,Nat.reduceEqDiff,Nat.reduceAdd,Nat.reduceSub,Nat.reduceMul,Int.reduceLT,Int.reduceLE,Int.reduceNeg,Int.reduceToNat,reduceCtorEq,Nat.reduceBEq,Nat.reduceBNe,Qk,Qe,Value.cells,am,mm,keep, f_, fo_, aint, lv, hc2, hkv0, hwn, hbl, w1, w17, v1, v2, d1, d2, l1, l2, g1, g2, p1, p2, hk1, hk2, bd, hbs, ha5, hii, v10, v20, g10, g20, Nat.sub_self, Nat.le_refl]; refine hK_ _ _ ?_; clear hK_ K_; repeat first | refine QL ?_ | refine QM ?_)))
          refine ⟨(i + 1, s5, H5), ⟨by simp only []; omega, o5.low x2.length, x5⟩, (by repeat first | exact Forgets.nil | refine Forgets.cons (by first | (simp only [look, ↓reduceIte, Nat.reduceEqDiff]; done) | (simp only [look, ↓reduceIte, Nat.reduceEqDiff]; rfl) | simp [look, hii]) ?_), ?_⟩
          first | omega | exact ⟨rfl, by omega⟩ | exact ⟨rfl, by simp only []; omega⟩ | (simp only []; omega)
    have hi' : i = min (nB page) 5 := by omega
    have osl : SLn H2 s (lsA page i).length (flP (lsA page i)) := by rw [lsA_length]; exact o2.sln
    by_cases c1 : (i : Int) < (nB page : Int)
    · have c2 : ¬ (i : Int) < 5 := by omega
      iterate 1 ((repeat first | refine Qo ?_ | refine Qn ?_); (first | (refine QK (by kernel_rfl) ?_; intro K_ hK_; simp -implicitDefEqProofs (disch := (try simp only [sl]); try omega) only [sm,QJ,Qj,Qi,Qq,QC,Qz,bd,QF,look,aput,QH,Qg,QI,abin,anil,Qb,QA,ty,↓reduceIte,Nat.reduceEqDiff,Nat.reduceAdd,Nat.reduceSub,Nat.reduceMul,Int.reduceLT,Int.reduceLE,Int.reduceNeg,Int.reduceToNat,reduceCtorEq,Nat.reduceBEq,Nat.reduceBNe,Qk,Qe,Value.cells,am,mm,keep, f_, fo_, aint, lv, hc2, hkv0, hwn, c1, c2]; refine hK_ _ _ ?_; clear hK_ K_; repeat first | refine QL ?_ | refine QM ?_)))
      repeat first | refine Qo ?_ | refine Qn ?_
      refine awp_if false rfl (by simp only [aeval_tmp, look, ↓reduceIte, Nat.reduceEqDiff]; try rfl) (fun h => absurd h (by decide)) (fun _ => ?_)
      iterate 1 ((repeat first | refine Qo ?_ | refine Qn ?_); (first | (refine QK (by kernel_rfl) ?_; intro K_ hK_; simp -implicitDefEqProofs (disch := (try simp only [sl]); try omega) only [sm,QJ,Qj,Qi,Qq,QC,bd,look,aput,Qm,Qh,ty,↓reduceIte,Nat.reduceEqDiff,Nat.reduceAdd,Nat.reduceSub,Nat.reduceMul,Int.reduceLT,Int.reduceLE,Int.reduceNeg,Int.reduceToNat,reduceCtorEq,Nat.reduceBEq,Nat.reduceBNe,Qk,Qe,Value.cells,am,mm,keep, f_, fo_, aint, lv, hc2, hkv0, hwn]; refine hK_ _ _ ?_; clear hK_ K_; repeat first | refine QL ?_ | refine QM ?_) | (refine awp_exit ?_; (repeat first | refine aThen_exit ?_ | refine aIn_out rfl ?_); refine aIn_here ?_; repeat first | refine QL ?_ | refine QM ?_)))
      (repeat first | refine Qo ?_ | refine Qn ?_); refine QK (by kernel_rfl) ?_; intro K_ hK_; simp -implicitDefEqProofs (disch := (try simp only [sl]); try omega) only [sm,QJ,Qj,Qi,Qq,QC,bd,look,aput,Qm,Qh,ty,↓reduceIte,Nat.reduceEqDiff,Nat.reduceAdd,Nat.reduceSub,Nat.reduceMul,Int.reduceLT,Int.reduceLE,Int.reduceNeg,Int.reduceToNat,reduceCtorEq,Nat.reduceBEq,Nat.reduceBNe,Qk,Qe,Value.cells,am,mm,keep, f_, fo_, aint, lv, hc2, hkv0, hwn]
      refine ACalls.mono (refplay_calls s (lsA page i) H2 osl (by rw [lsA_length]; omega)) ?_
      rintro _ H3 ⟨⟨y, rfl, o3⟩, e3⟩
      have hcv3 := e3.cells hc2
      have x3 : Ext H H3 := x2.trans e3
      by_cases hk : mayP (lsA page i)
      · have hE : ltE (lsA page i) = 0 := by rw [ltE, if_pos hk]
        have hK : ltK (lsA page i) = pgA (lsA page i) := by rw [ltK, if_pos hk]
        have hpl := pgA_length hk
        rw [hE]
        rw [hK] at o3
        obtain ⟨gx, rfl, hgx, -, hgl⟩ := o3.at (by rw [List.length_map, hpl]; decide)
        have cx := AH.cells_own hgx
        have lm : ((pgA (lsA page i)).map U8).length = 256 := by rw [List.length_map, hpl]
        try simp -implicitDefEqProofs (disch := (try simp only [sl]); try omega) only [sm,QJ,Qj,Qi,Qq,QC,bd,look,aput,Qm,Qh,ty,↓reduceIte,Nat.reduceEqDiff,Nat.reduceAdd,Nat.reduceSub,Nat.reduceMul,Int.reduceLT,Int.reduceLE,Int.reduceNeg,Int.reduceToNat,reduceCtorEq,Nat.reduceBEq,Nat.reduceBNe,Qk,Qe,Value.cells,am,mm,keep, f_, fo_, aint, lv, hc2, hkv0, hwn]
        try (refine hK_ _ _ ?_; clear hK_ K_; repeat first | refine QL ?_ | refine QM ?_)
        iterate 1 ((repeat first | refine Qo ?_ | refine Qn ?_); (first | (refine QK (by kernel_rfl) ?_; intro K_ hK_; simp -implicitDefEqProofs (disch := (try simp only [sl]); try omega) only [sm,QJ,Qj,Qi,Qq,QC,bd,look,aput,ty,↓reduceIte,Nat.reduceEqDiff,Nat.reduceAdd,Nat.reduceSub,Nat.reduceMul,Int.reduceLT,Int.reduceLE,Int.reduceNeg,Int.reduceToNat,reduceCtorEq,Nat.reduceBEq,Nat.reduceBNe,Qk,Qe,Value.cells,am,mm,keep, f_, fo_, aint, lv, hc2, hkv0, hwn]; refine hK_ _ _ ?_; clear hK_ K_; repeat first | refine QL ?_ | refine QM ?_)))
        repeat first | refine Qo ?_ | refine Qn ?_
        refine awp_forK [0, 4, 9] (fun x : Nat × Int => [(11, I64 x.1), (10, .int .i64 x.2)]) (fun x : Nat × Int => H3) (fun x : Nat × Int => x.1 ≤ 256 ∧ (x.2 = 0 ∧ (∀ j, j < x.1 → (pgA (lsA page i)).getD j 0 = page.getD j 0) ∨ x.2 = 9 ∧ pgA (lsA page i) ≠ page)) (fun x : Nat × Int => 256 - x.1) ((0, 0)) (⟨Nat.zero_le _, .inl ⟨rfl, fun j h => by omega⟩⟩) (by repeat first | exact Forgets.nil | refine Forgets.cons (by first | (simp only [look, ↓reduceIte, Nat.reduceEqDiff]; done) | (simp only [look, ↓reduceIte, Nat.reduceEqDiff]; rfl) | simp [look, hii]) ?_) rfl ?_
        rintro ⟨j, e⟩ ⟨hj, hje⟩
        simp only [] at hj hje ⊢
        have h00 : ((0 : Int) == 0) = true := rfl
        have h90 : ((9 : Int) == 0) = false := rfl
        have n00 : ((0 : Int) != 0) = false := rfl
        have n90 : ((9 : Int) != 0) = true := rfl
        rcases hje with ⟨rfl, heq⟩ | ⟨rfl, hne⟩
        · by_cases hj2 : j < 256
          · have hj3 : (j : Int) < (page.length : Int) := by omega
            have hxi := mg8 (pgA (lsA page i)) j (by omega)
            have kv := hkv j (by omega)
            have hjj : IntKind.i64.wrap ((j : Int) + 1) = (j : Int) + 1 := wi64 _ (by omega) (by omega)
            have hj4 : j < page.length := by omega
            iterate 1 ((repeat first | refine Qo ?_ | refine Qn ?_); (first | (refine QK (by kernel_rfl) ?_; intro K_ hK_; simp -implicitDefEqProofs (disch := (try simp only [sl]); try omega) only [sm,QJ,Qj,Qi,Qq,QC,bd,look,aput,QI,abin,anil,ty,↓reduceIte,Nat.reduceEqDiff,Nat.reduceAdd,Nat.reduceSub,Nat.reduceMul,Int.reduceLT,Int.reduceLE,Int.reduceNeg,Int.reduceToNat,reduceCtorEq,Nat.reduceBEq,Nat.reduceBNe,Qk,Qe,Value.cells,am,mm,keep, f_, fo_, aint, lv, hc2, hkv0, hwn, hj3, h00]; refine hK_ _ _ ?_; clear hK_ K_; repeat first | refine QL ?_ | refine QM ?_)))
            repeat first | refine Qo ?_ | refine Qn ?_
            refine awp_if true rfl (by simp only [aeval_tmp, look, ↓reduceIte, Nat.reduceEqDiff]; try rfl) (fun _ => ?_) (fun h => absurd h (by decide))
            by_cases hq : (pgA (lsA page i)).getD j 0 = page.getD j 0
            · have hn : ((((pgA (lsA page i)).getD j 0).toNat : Int) != ((page.getD j 0).toNat : Int)) = false := by rw [hq]; simp
              iterate 2 ((repeat first | refine Qo ?_ | refine Qn ?_); (first | (refine awp_region_drawK (id := 14) [(0, []), (1, []), (2, []), (3, []), (4, []), (5, []), (6, []), (7, []), (8, [])] mixed (by kernel_rfl) ?_; intro K_ hK_; simp -implicitDefEqProofs (disch := (try simp only [sl]); try omega) only [sm,aSel,Qu,Qv,Qw,Qx,Qy,Qj,Qi,Qq,QC,Qz,bd,QF,look,aput,QI,abin,anil,Qb,QA,ty,↓reduceIte,Nat.reduceEqDiff,Nat.reduceAdd,Nat.reduceSub,Nat.reduceMul,Int.reduceLT,Int.reduceLE,Int.reduceNeg,Int.reduceToNat,reduceCtorEq,Nat.reduceBEq,Nat.reduceBNe,Qk,Qe,Value.cells,am,mm,keep, f_, fo_, aint, lv, hc2, hkv0, hwn, cx, hxi, hcv3, kv, lm, hn, hj2, hj3, hj4]; refine hK_ _ _ ?_; clear hK_ K_; repeat first | refine QL ?_ | refine QM ?_) | (refine awp_skip ?_; repeat first | refine QL ?_ | refine QM ?_)))
              repeat first | refine Qo ?_ | refine Qn ?_
              refine awp_if false rfl (by simp only [aeval_tmp, look, ↓reduceIte, Nat.reduceEqDiff]; try rfl) (fun h => absurd h (by decide)) (fun _ => ?_)
              iterate 2 ((repeat first | refine Qo ?_ | refine Qn ?_); (first | (refine QK (by kernel_rfl) ?_; intro K_ hK_; simp -implicitDefEqProofs (disch := (try simp only [sl]); try omega) only [sm,QJ,Qj,Qi,Qq,QC,bd,look,aput,QI,abin,anil,ty,↓reduceIte,Nat.reduceEqDiff,Nat.reduceAdd,Nat.reduceSub,Nat.reduceMul,Int.reduceLT,Int.reduceLE,Int.reduceNeg,Int.reduceToNat,reduceCtorEq,Nat.reduceBEq,Nat.reduceBNe,Qk,Qe,Value.cells,am,mm,keep, f_, fo_, aint, lv, hc2, hkv0, hwn, hjj]; refine hK_ _ _ ?_; clear hK_ K_; repeat first | refine QL ?_ | refine QM ?_) | (refine awp_skip ?_; repeat first | refine QL ?_ | refine QM ?_)))
              refine ⟨(j + 1, 0), ⟨by simp only []; omega, .inl ⟨rfl, fun m hm => by simp only [] at hm; rcases Nat.lt_or_ge m j with h | h; exact heq m h; exact (show m = j by omega) ▸ hq⟩⟩, (by repeat first | exact Forgets.nil | refine Forgets.cons (by first | (simp only [look, ↓reduceIte, Nat.reduceEqDiff]; done) | (simp only [look, ↓reduceIte, Nat.reduceEqDiff]; rfl) | simp [look, hjj]) ?_), ?_⟩
              first | omega | exact ⟨rfl, by omega⟩ | exact ⟨rfl, by simp only []; omega⟩ | (simp only []; omega)
            · have hn : ((((pgA (lsA page i)).getD j 0).toNat : Int) != ((page.getD j 0).toNat : Int)) = true := by
                rw [bne_iff_ne]; intro h; exact hq (UInt8.toNat_inj.1 (by omega))
              iterate 2 ((repeat first | refine Qo ?_ | refine Qn ?_); (first | (refine awp_region_drawK (id := 14) [(0, []), (1, []), (2, []), (3, []), (4, []), (5, []), (6, []), (7, []), (8, [])] mixed (by kernel_rfl) ?_; intro K_ hK_; simp -implicitDefEqProofs (disch := (try simp only [sl]); try omega) only [sm,aSel,Qu,Qv,Qw,Qx,Qy,Qj,Qi,Qq,QC,Qz,bd,QF,look,aput,QI,abin,anil,Qb,QA,ty,↓reduceIte,Nat.reduceEqDiff,Nat.reduceAdd,Nat.reduceSub,Nat.reduceMul,Int.reduceLT,Int.reduceLE,Int.reduceNeg,Int.reduceToNat,reduceCtorEq,Nat.reduceBEq,Nat.reduceBNe,Qk,Qe,Value.cells,am,mm,keep, f_, fo_, aint, lv, hc2, hkv0, hwn, cx, hxi, hcv3, kv, lm, hn, hj2, hj3, hj4]; refine hK_ _ _ ?_; clear hK_ K_; repeat first | refine QL ?_ | refine QM ?_) | (refine awp_skip ?_; repeat first | refine QL ?_ | refine QM ?_)))
              repeat first | refine Qo ?_ | refine Qn ?_
              refine awp_if true rfl (by simp only [aeval_tmp, look, ↓reduceIte, Nat.reduceEqDiff]; try rfl) (fun _ => ?_) (fun h => absurd h (by decide))
              iterate 2 ((repeat first | refine Qo ?_ | refine Qn ?_); (first | (refine QK (by kernel_rfl) ?_; intro K_ hK_; simp -implicitDefEqProofs (disch := (try simp only [sl]); try omega) only [sm,QJ,Qj,Qi,Qq,QC,bd,look,aput,QI,abin,anil,ty,↓reduceIte,Nat.reduceEqDiff,Nat.reduceAdd,Nat.reduceSub,Nat.reduceMul,Int.reduceLT,Int.reduceLE,Int.reduceNeg,Int.reduceToNat,reduceCtorEq,Nat.reduceBEq,Nat.reduceBNe,Qk,Qe,Value.cells,am,mm,keep, f_, fo_, aint, lv, hc2, hkv0, hwn, hjj]; refine hK_ _ _ ?_; clear hK_ K_; repeat first | refine QL ?_ | refine QM ?_)))
              refine ⟨(j + 1, 9), ⟨by simp only []; omega, .inr ⟨rfl, fun h => hq (by rw [h])⟩⟩, (by repeat first | exact Forgets.nil | refine Forgets.cons (by first | (simp only [look, ↓reduceIte, Nat.reduceEqDiff]; done) | (simp only [look, ↓reduceIte, Nat.reduceEqDiff]; rfl) | simp [look, hjj]) ?_), ?_⟩
              first | omega | exact ⟨rfl, by omega⟩ | exact ⟨rfl, by simp only []; omega⟩ | (simp only []; omega)
          · obtain rfl : j = 256 := by omega
            have hj3 : ¬ (((256 : Nat) : Int) < (page.length : Int)) := by omega
            have hbe : pgA (lsA page i) = page := by
              apply List.ext_getElem (by rw [hpl, hl])
              intro m h1 h2
              have := heq m (by omega)
              rw [List.getD_eq_getElem?_getD, List.getD_eq_getElem?_getD, List.getElem?_eq_getElem h1, List.getElem?_eq_getElem h2] at this
              exact this
            have hG : okA page := (allA_iff hl).1 (by rw [← hi']; exact ⟨hk, hbe⟩)
            have hi2 : i = nB page := by have := hG.2.1; omega
            exact absurd hi2 (by omega)
        · have hG : ¬ okA page := fun h => hne (by have := ((allA_iff hl).2 h).2; rwa [← hi'] at this)
          by_cases hj2 : j < 256
          · have hj3 : (j : Int) < (page.length : Int) := by omega
            iterate 1 ((repeat first | refine Qo ?_ | refine Qn ?_); (first | (refine QK (by kernel_rfl) ?_; intro K_ hK_; simp -implicitDefEqProofs (disch := (try simp only [sl]); try omega) only [sm,QJ,Qj,Qi,Qq,QC,bd,look,aput,QI,abin,anil,ty,↓reduceIte,Nat.reduceEqDiff,Nat.reduceAdd,Nat.reduceSub,Nat.reduceMul,Int.reduceLT,Int.reduceLE,Int.reduceNeg,Int.reduceToNat,reduceCtorEq,Nat.reduceBEq,Nat.reduceBNe,Qk,Qe,Value.cells,am,mm,keep, f_, fo_, aint, lv, hc2, hkv0, hwn, hj3, h90]; refine hK_ _ _ ?_; clear hK_ K_; repeat first | refine QL ?_ | refine QM ?_)))
            repeat first | refine Qo ?_ | refine Qn ?_
            refine awp_if false rfl (by simp only [aeval_tmp, look, ↓reduceIte, Nat.reduceEqDiff]; try rfl) (fun h => absurd h (by decide)) (fun _ => ?_)
            iterate 2 ((repeat first | refine Qo ?_ | refine Qn ?_); (first | (refine QK (by kernel_rfl) ?_; intro K_ hK_; simp -implicitDefEqProofs (disch := (try simp only [sl]); try omega) only [sm,QJ,Qj,Qi,Qq,QC,bd,look,aput,QI,abin,anil,ty,↓reduceIte,Nat.reduceEqDiff,Nat.reduceAdd,Nat.reduceSub,Nat.reduceMul,Int.reduceLT,Int.reduceLE,Int.reduceNeg,Int.reduceToNat,reduceCtorEq,Nat.reduceBEq,Nat.reduceBNe,Qk,Qe,Value.cells,am,mm,keep, f_, fo_, aint, lv, hc2, hkv0, hwn, n90]; refine hK_ _ _ ?_; clear hK_ K_; repeat first | refine QL ?_ | refine QM ?_) | (refine awp_exit ?_; (repeat first | refine aThen_exit ?_ | refine aIn_out rfl ?_); refine aIn_here ?_; repeat first | refine QL ?_ | refine QM ?_)))
            repeat first | refine Qo ?_ | refine Qn ?_
            refine awp_if true rfl (by simp only [aeval_tmp, look, ↓reduceIte, Nat.reduceEqDiff]; try rfl) (fun _ => ?_) (fun h => absurd h (by decide))
            iterate 1 ((repeat first | refine Qo ?_ | refine Qn ?_); (first | (refine QK (by kernel_rfl) ?_; intro K_ hK_; simp -implicitDefEqProofs (disch := (try simp only [sl]); try omega) only [sm,QJ,Qj,Qi,Qq,QC,bd,look,aput,ty,↓reduceIte,Nat.reduceEqDiff,Nat.reduceAdd,Nat.reduceSub,Nat.reduceMul,Int.reduceLT,Int.reduceLE,Int.reduceNeg,Int.reduceToNat,reduceCtorEq,Nat.reduceBEq,Nat.reduceBNe,Qk,Qe,Value.cells,am,mm,keep, f_, fo_, aint, lv, hc2, hkv0, hwn]; refine hK_ _ _ ?_; clear hK_ K_; repeat first | refine QL ?_ | refine QM ?_)))
            first | refine awp_ret ?_ | skip
            show ∃ v, aresults Tryd.prog Tryd.f13 _ _ = some v ∧ _
            rw [aresults_2 (r := .tmp 2) (s := .tmp 3) (by kernel_rfl)]
            simp -implicitDefEqProofs (disch := (try simp only [sl]); try omega) only [aresult, Option.some.injEq, exists_eq_left', sm,Qj,Qi,Qq,QC,Qz,bd,QF,look,aput,QB,Qf,QA,ty,↓reduceIte,Nat.reduceEqDiff,Nat.reduceAdd,Nat.reduceSub,Nat.reduceMul,Int.reduceLT,Int.reduceLE,Int.reduceNeg,Int.reduceToNat,reduceCtorEq,Nat.reduceBEq,Nat.reduceBNe,Qk,Qe,Value.cells,am,mm,keep, f_, fo_, aint, lv, hc2, hkv0, hwn]
            rw [paE, paL, if_pos hl, if_neg hG, if_neg hG]
            exact ⟨⟨_, rfl, OSn.none _⟩, x3⟩
          · have hj3 : ¬ ((j : Int) < (page.length : Int)) := by omega
            iterate 1 ((repeat first | refine Qo ?_ | refine Qn ?_); (first | (refine QK (by kernel_rfl) ?_; intro K_ hK_; simp -implicitDefEqProofs (disch := (try simp only [sl]); try omega) only [sm,QJ,Qj,Qi,Qq,QC,bd,look,aput,QI,abin,anil,ty,↓reduceIte,Nat.reduceEqDiff,Nat.reduceAdd,Nat.reduceSub,Nat.reduceMul,Int.reduceLT,Int.reduceLE,Int.reduceNeg,Int.reduceToNat,reduceCtorEq,Nat.reduceBEq,Nat.reduceBNe,Qk,Qe,Value.cells,am,mm,keep, f_, fo_, aint, lv, hc2, hkv0, hwn, hj3]; refine hK_ _ _ ?_; clear hK_ K_; repeat first | refine QL ?_ | refine QM ?_)))
            repeat first | refine Qo ?_ | refine Qn ?_
            refine awp_if false rfl (by simp only [aeval_tmp, look, ↓reduceIte, Nat.reduceEqDiff]; try rfl) (fun h => absurd h (by decide)) (fun _ => ?_)
            iterate 2 ((repeat first | refine Qo ?_ | refine Qn ?_); (first | (refine QK (by kernel_rfl) ?_; intro K_ hK_; simp -implicitDefEqProofs (disch := (try simp only [sl]); try omega) only [sm,QJ,Qj,Qi,Qq,QC,bd,look,aput,QI,abin,anil,ty,↓reduceIte,Nat.reduceEqDiff,Nat.reduceAdd,Nat.reduceSub,Nat.reduceMul,Int.reduceLT,Int.reduceLE,Int.reduceNeg,Int.reduceToNat,reduceCtorEq,Nat.reduceBEq,Nat.reduceBNe,Qk,Qe,Value.cells,am,mm,keep, f_, fo_, aint, lv, hc2, hkv0, hwn, n90]; refine hK_ _ _ ?_; clear hK_ K_; repeat first | refine QL ?_ | refine QM ?_) | (refine awp_exit ?_; (repeat first | refine aThen_exit ?_ | refine aIn_out rfl ?_); refine aIn_here ?_; repeat first | refine QL ?_ | refine QM ?_)))
            repeat first | refine Qo ?_ | refine Qn ?_
            refine awp_if true rfl (by simp only [aeval_tmp, look, ↓reduceIte, Nat.reduceEqDiff]; try rfl) (fun _ => ?_) (fun h => absurd h (by decide))
            iterate 1 ((repeat first | refine Qo ?_ | refine Qn ?_); (first | (refine QK (by kernel_rfl) ?_; intro K_ hK_; simp -implicitDefEqProofs (disch := (try simp only [sl]); try omega) only [sm,QJ,Qj,Qi,Qq,QC,bd,look,aput,ty,↓reduceIte,Nat.reduceEqDiff,Nat.reduceAdd,Nat.reduceSub,Nat.reduceMul,Int.reduceLT,Int.reduceLE,Int.reduceNeg,Int.reduceToNat,reduceCtorEq,Nat.reduceBEq,Nat.reduceBNe,Qk,Qe,Value.cells,am,mm,keep, f_, fo_, aint, lv, hc2, hkv0, hwn]; refine hK_ _ _ ?_; clear hK_ K_; repeat first | refine QL ?_ | refine QM ?_)))
            first | refine awp_ret ?_ | skip
            show ∃ v, aresults Tryd.prog Tryd.f13 _ _ = some v ∧ _
            rw [aresults_2 (r := .tmp 2) (s := .tmp 3) (by kernel_rfl)]
            simp -implicitDefEqProofs (disch := (try simp only [sl]); try omega) only [aresult, Option.some.injEq, exists_eq_left', sm,Qj,Qi,Qq,QC,Qz,bd,QF,look,aput,QB,Qf,QA,ty,↓reduceIte,Nat.reduceEqDiff,Nat.reduceAdd,Nat.reduceSub,Nat.reduceMul,Int.reduceLT,Int.reduceLE,Int.reduceNeg,Int.reduceToNat,reduceCtorEq,Nat.reduceBEq,Nat.reduceBNe,Qk,Qe,Value.cells,am,mm,keep, f_, fo_, aint, lv, hc2, hkv0, hwn]
            rw [paE, paL, if_pos hl, if_neg hG, if_neg hG]
            exact ⟨⟨_, rfl, OSn.none _⟩, x3⟩
      · have hE : ltE (lsA page i) = 1 := by rw [ltE, if_neg hk]
        have hG : ¬ okA page := fun h => hk (by have := ((allA_iff hl).2 h).1; rwa [← hi'] at this)
        have h10 : ((1 : Int) == 0) = false := rfl
        have n10 : ((1 : Int) != 0) = true := rfl
        have h0l : (0 : Int) < (page.length : Int) := by omega
        rw [hE]
        try simp -implicitDefEqProofs (disch := (try simp only [sl]); try omega) only [sm,QJ,Qj,Qi,Qq,QC,bd,look,aput,Qm,Qh,ty,↓reduceIte,Nat.reduceEqDiff,Nat.reduceAdd,Nat.reduceSub,Nat.reduceMul,Int.reduceLT,Int.reduceLE,Int.reduceNeg,Int.reduceToNat,reduceCtorEq,Nat.reduceBEq,Nat.reduceBNe,Qk,Qe,Value.cells,am,mm,keep, f_, fo_, aint, lv, hc2, hkv0, hwn]
        try (refine hK_ _ _ ?_; clear hK_ K_; repeat first | refine QL ?_ | refine QM ?_)
        iterate 1 ((repeat first | refine Qo ?_ | refine Qn ?_); (first | (refine QK (by kernel_rfl) ?_; intro K_ hK_; simp -implicitDefEqProofs (disch := (try simp only [sl]); try omega) only [sm,QJ,Qj,Qi,Qq,QC,bd,look,aput,ty,↓reduceIte,Nat.reduceEqDiff,Nat.reduceAdd,Nat.reduceSub,Nat.reduceMul,Int.reduceLT,Int.reduceLE,Int.reduceNeg,Int.reduceToNat,reduceCtorEq,Nat.reduceBEq,Nat.reduceBNe,Qk,Qe,Value.cells,am,mm,keep, f_, fo_, aint, lv, hc2, hkv0, hwn]; refine hK_ _ _ ?_; clear hK_ K_; repeat first | refine QL ?_ | refine QM ?_)))
        repeat first | refine Qo ?_ | refine Qn ?_
        refine awp_forK [0, 4, 9] (fun x : Nat => [(11, .int .i64 0), (10, .int .i64 1)]) (fun x : Nat => H3) (fun x : Nat => x = 0) (fun x : Nat => 0) (0) (rfl) (by repeat first | exact Forgets.nil | refine Forgets.cons (by first | (simp only [look, ↓reduceIte, Nat.reduceEqDiff]; done) | (simp only [look, ↓reduceIte, Nat.reduceEqDiff]; rfl) | simp [look, hjj]) ?_) rfl ?_
        rintro x rfl
        iterate 1 ((repeat first | refine Qo ?_ | refine Qn ?_); (first | (refine QK (by kernel_rfl) ?_; intro K_ hK_; simp -implicitDefEqProofs (disch := (try simp only [sl]); try omega) only [sm,QJ,Qj,Qi,Qq,QC,bd,look,aput,QI,abin,anil,ty,↓reduceIte,Nat.reduceEqDiff,Nat.reduceAdd,Nat.reduceSub,Nat.reduceMul,Int.reduceLT,Int.reduceLE,Int.reduceNeg,Int.reduceToNat,reduceCtorEq,Nat.reduceBEq,Nat.reduceBNe,Qk,Qe,Value.cells,am,mm,keep, f_, fo_, aint, lv, hc2, hkv0, hwn, h0l, h10]; refine hK_ _ _ ?_; clear hK_ K_; repeat first | refine QL ?_ | refine QM ?_)))
        repeat first | refine Qo ?_ | refine Qn ?_
        refine awp_if false rfl (by simp only [aeval_tmp, look, ↓reduceIte, Nat.reduceEqDiff]; try rfl) (fun h => absurd h (by decide)) (fun _ => ?_)
        iterate 2 ((repeat first | refine Qo ?_ | refine Qn ?_); (first | (refine QK (by kernel_rfl) ?_; intro K_ hK_; simp -implicitDefEqProofs (disch := (try simp only [sl]); try omega) only [sm,QJ,Qj,Qi,Qq,QC,bd,look,aput,QI,abin,anil,ty,↓reduceIte,Nat.reduceEqDiff,Nat.reduceAdd,Nat.reduceSub,Nat.reduceMul,Int.reduceLT,Int.reduceLE,Int.reduceNeg,Int.reduceToNat,reduceCtorEq,Nat.reduceBEq,Nat.reduceBNe,Qk,Qe,Value.cells,am,mm,keep, f_, fo_, aint, lv, hc2, hkv0, hwn, n10]; refine hK_ _ _ ?_; clear hK_ K_; repeat first | refine QL ?_ | refine QM ?_) | (refine awp_exit ?_; (repeat first | refine aThen_exit ?_ | refine aIn_out rfl ?_); refine aIn_here ?_; repeat first | refine QL ?_ | refine QM ?_)))
        repeat first | refine Qo ?_ | refine Qn ?_
        refine awp_if true rfl (by simp only [aeval_tmp, look, ↓reduceIte, Nat.reduceEqDiff]; try rfl) (fun _ => ?_) (fun h => absurd h (by decide))
        iterate 1 ((repeat first | refine Qo ?_ | refine Qn ?_); (first | (refine QK (by kernel_rfl) ?_; intro K_ hK_; simp -implicitDefEqProofs (disch := (try simp only [sl]); try omega) only [sm,QJ,Qj,Qi,Qq,QC,bd,look,aput,ty,↓reduceIte,Nat.reduceEqDiff,Nat.reduceAdd,Nat.reduceSub,Nat.reduceMul,Int.reduceLT,Int.reduceLE,Int.reduceNeg,Int.reduceToNat,reduceCtorEq,Nat.reduceBEq,Nat.reduceBNe,Qk,Qe,Value.cells,am,mm,keep, f_, fo_, aint, lv, hc2, hkv0, hwn]; refine hK_ _ _ ?_; clear hK_ K_; repeat first | refine QL ?_ | refine QM ?_)))
        first | refine awp_ret ?_ | skip
        show ∃ v, aresults Tryd.prog Tryd.f13 _ _ = some v ∧ _
        rw [aresults_2 (r := .tmp 2) (s := .tmp 3) (by kernel_rfl)]
        simp -implicitDefEqProofs (disch := (try simp only [sl]); try omega) only [aresult, Option.some.injEq, exists_eq_left', sm,Qj,Qi,Qq,QC,Qz,bd,QF,look,aput,QB,Qf,QA,ty,↓reduceIte,Nat.reduceEqDiff,Nat.reduceAdd,Nat.reduceSub,Nat.reduceMul,Int.reduceLT,Int.reduceLE,Int.reduceNeg,Int.reduceToNat,reduceCtorEq,Nat.reduceBEq,Nat.reduceBNe,Qk,Qe,Value.cells,am,mm,keep, f_, fo_, aint, lv, hc2, hkv0, hwn]
        rw [paE, paL, if_pos hl, if_neg hG, if_neg hG]
        exact ⟨⟨_, rfl, OSn.none _⟩, x3⟩
    · -- (cursor back)
      iterate 1 ((repeat first | refine Qo ?_ | refine Qn ?_); (first | (refine QK (by kernel_rfl) ?_; intro K_ hK_; simp -implicitDefEqProofs (disch := (try simp only [sl]); try omega) only [sm,QJ,Qj,Qi,Qq,QC,Qz,bd,QF,look,aput,QH,Qg,QI,abin,anil,Qb,QA,ty,↓reduceIte,Nat.reduceEqDiff,Nat.reduceAdd,Nat.reduceSub,Nat.reduceMul,Int.reduceLT,Int.reduceLE,Int.reduceNeg,Int.reduceToNat,reduceCtorEq,Nat.reduceBEq,Nat.reduceBNe,Qk,Qe,Value.cells,am,mm,keep, f_, fo_, aint, lv, hc2, hkv0, hwn, c1]; refine hK_ _ _ ?_; clear hK_ K_; repeat first | refine QL ?_ | refine QM ?_)))
      repeat first | refine Qo ?_ | refine Qn ?_
      refine awp_if false rfl (by simp only [aeval_tmp, look, ↓reduceIte, Nat.reduceEqDiff]; try rfl) (fun h => absurd h (by decide)) (fun _ => ?_)
      iterate 1 ((repeat first | refine Qo ?_ | refine Qn ?_); (first | (refine QK (by kernel_rfl) ?_; intro K_ hK_; simp -implicitDefEqProofs (disch := (try simp only [sl]); try omega) only [sm,QJ,Qj,Qi,Qq,QC,bd,look,aput,Qm,Qh,ty,↓reduceIte,Nat.reduceEqDiff,Nat.reduceAdd,Nat.reduceSub,Nat.reduceMul,Int.reduceLT,Int.reduceLE,Int.reduceNeg,Int.reduceToNat,reduceCtorEq,Nat.reduceBEq,Nat.reduceBNe,Qk,Qe,Value.cells,am,mm,keep, f_, fo_, aint, lv, hc2, hkv0, hwn]; refine hK_ _ _ ?_; clear hK_ K_; repeat first | refine QL ?_ | refine QM ?_) | (refine awp_exit ?_; (repeat first | refine aThen_exit ?_ | refine aIn_out rfl ?_); refine aIn_here ?_; repeat first | refine QL ?_ | refine QM ?_)))
      (repeat first | refine Qo ?_ | refine Qn ?_); refine QK (by kernel_rfl) ?_; intro K_ hK_; simp -implicitDefEqProofs (disch := (try simp only [sl]); try omega) only [sm,QJ,Qj,Qi,Qq,QC,bd,look,aput,Qm,Qh,ty,↓reduceIte,Nat.reduceEqDiff,Nat.reduceAdd,Nat.reduceSub,Nat.reduceMul,Int.reduceLT,Int.reduceLE,Int.reduceNeg,Int.reduceToNat,reduceCtorEq,Nat.reduceBEq,Nat.reduceBNe,Qk,Qe,Value.cells,am,mm,keep, f_, fo_, aint, lv, hc2, hkv0, hwn]
      refine ACalls.mono (refplay_calls s (lsA page i) H2 osl (by rw [lsA_length]; omega)) ?_
      rintro _ H3 ⟨⟨y, rfl, o3⟩, e3⟩
      have hcv3 := e3.cells hc2
      have x3 : Ext H H3 := x2.trans e3
      by_cases hk : mayP (lsA page i)
      · have hE : ltE (lsA page i) = 0 := by rw [ltE, if_pos hk]
        have hK : ltK (lsA page i) = pgA (lsA page i) := by rw [ltK, if_pos hk]
        have hpl := pgA_length hk
        rw [hE]
        rw [hK] at o3
        obtain ⟨gx, rfl, hgx, -, hgl⟩ := o3.at (by rw [List.length_map, hpl]; decide)
        have cx := AH.cells_own hgx
        have lm : ((pgA (lsA page i)).map U8).length = 256 := by rw [List.length_map, hpl]
        try simp -implicitDefEqProofs (disch := (try simp only [sl]); try omega) only [sm,QJ,Qj,Qi,Qq,QC,bd,look,aput,Qm,Qh,ty,↓reduceIte,Nat.reduceEqDiff,Nat.reduceAdd,Nat.reduceSub,Nat.reduceMul,Int.reduceLT,Int.reduceLE,Int.reduceNeg,Int.reduceToNat,reduceCtorEq,Nat.reduceBEq,Nat.reduceBNe,Qk,Qe,Value.cells,am,mm,keep, f_, fo_, aint, lv, hc2, hkv0, hwn]
        try (refine hK_ _ _ ?_; clear hK_ K_; repeat first | refine QL ?_ | refine QM ?_)
        iterate 1 ((repeat first | refine Qo ?_ | refine Qn ?_); (first | (refine QK (by kernel_rfl) ?_; intro K_ hK_; simp -implicitDefEqProofs (disch := (try simp only [sl]); try omega) only [sm,QJ,Qj,Qi,Qq,QC,bd,look,aput,ty,↓reduceIte,Nat.reduceEqDiff,Nat.reduceAdd,Nat.reduceSub,Nat.reduceMul,Int.reduceLT,Int.reduceLE,Int.reduceNeg,Int.reduceToNat,reduceCtorEq,Nat.reduceBEq,Nat.reduceBNe,Qk,Qe,Value.cells,am,mm,keep, f_, fo_, aint, lv, hc2, hkv0, hwn]; refine hK_ _ _ ?_; clear hK_ K_; repeat first | refine QL ?_ | refine QM ?_)))
        repeat first | refine Qo ?_ | refine Qn ?_
        refine awp_forK [0, 4, 9] (fun x : Nat × Int => [(11, I64 x.1), (10, .int .i64 x.2)]) (fun x : Nat × Int => H3) (fun x : Nat × Int => x.1 ≤ 256 ∧ (x.2 = 0 ∧ (∀ j, j < x.1 → (pgA (lsA page i)).getD j 0 = page.getD j 0) ∨ x.2 = 9 ∧ pgA (lsA page i) ≠ page)) (fun x : Nat × Int => 256 - x.1) ((0, 0)) (⟨Nat.zero_le _, .inl ⟨rfl, fun j h => by omega⟩⟩) (by repeat first | exact Forgets.nil | refine Forgets.cons (by first | (simp only [look, ↓reduceIte, Nat.reduceEqDiff]; done) | (simp only [look, ↓reduceIte, Nat.reduceEqDiff]; rfl) | simp [look, hjj]) ?_) rfl ?_
        rintro ⟨j, e⟩ ⟨hj, hje⟩
        simp only [] at hj hje ⊢
        have h00 : ((0 : Int) == 0) = true := rfl
        have h90 : ((9 : Int) == 0) = false := rfl
        have n00 : ((0 : Int) != 0) = false := rfl
        have n90 : ((9 : Int) != 0) = true := rfl
        rcases hje with ⟨rfl, heq⟩ | ⟨rfl, hne⟩
        · by_cases hj2 : j < 256
          · have hj3 : (j : Int) < (page.length : Int) := by omega
            have hxi := mg8 (pgA (lsA page i)) j (by omega)
            have kv := hkv j (by omega)
            have hjj : IntKind.i64.wrap ((j : Int) + 1) = (j : Int) + 1 := wi64 _ (by omega) (by omega)
            have hj4 : j < page.length := by omega
            iterate 1 ((repeat first | refine Qo ?_ | refine Qn ?_); (first | (refine QK (by kernel_rfl) ?_; intro K_ hK_; simp -implicitDefEqProofs (disch := (try simp only [sl]); try omega) only [sm,QJ,Qj,Qi,Qq,QC,bd,look,aput,QI,abin,anil,ty,↓reduceIte,Nat.reduceEqDiff,Nat.reduceAdd,Nat.reduceSub,Nat.reduceMul,Int.reduceLT,Int.reduceLE,Int.reduceNeg,Int.reduceToNat,reduceCtorEq,Nat.reduceBEq,Nat.reduceBNe,Qk,Qe,Value.cells,am,mm,keep, f_, fo_, aint, lv, hc2, hkv0, hwn, hj3, h00]; refine hK_ _ _ ?_; clear hK_ K_; repeat first | refine QL ?_ | refine QM ?_)))
            repeat first | refine Qo ?_ | refine Qn ?_
            refine awp_if true rfl (by simp only [aeval_tmp, look, ↓reduceIte, Nat.reduceEqDiff]; try rfl) (fun _ => ?_) (fun h => absurd h (by decide))
            by_cases hq : (pgA (lsA page i)).getD j 0 = page.getD j 0
            · have hn : ((((pgA (lsA page i)).getD j 0).toNat : Int) != ((page.getD j 0).toNat : Int)) = false := by rw [hq]; simp
              iterate 2 ((repeat first | refine Qo ?_ | refine Qn ?_); (first | (refine awp_region_drawK (id := 14) [(0, []), (1, []), (2, []), (3, []), (4, []), (5, []), (6, []), (7, []), (8, [])] mixed (by kernel_rfl) ?_; intro K_ hK_; simp -implicitDefEqProofs (disch := (try simp only [sl]); try omega) only [sm,aSel,Qu,Qv,Qw,Qx,Qy,Qj,Qi,Qq,QC,Qz,bd,QF,look,aput,QI,abin,anil,Qb,QA,ty,↓reduceIte,Nat.reduceEqDiff,Nat.reduceAdd,Nat.reduceSub,Nat.reduceMul,Int.reduceLT,Int.reduceLE,Int.reduceNeg,Int.reduceToNat,reduceCtorEq,Nat.reduceBEq,Nat.reduceBNe,Qk,Qe,Value.cells,am,mm,keep, f_, fo_, aint, lv, hc2, hkv0, hwn, cx, hxi, hcv3, kv, lm, hn, hj2, hj3, hj4]; refine hK_ _ _ ?_; clear hK_ K_; repeat first | refine QL ?_ | refine QM ?_) | (refine awp_skip ?_; repeat first | refine QL ?_ | refine QM ?_)))
              repeat first | refine Qo ?_ | refine Qn ?_
              refine awp_if false rfl (by simp only [aeval_tmp, look, ↓reduceIte, Nat.reduceEqDiff]; try rfl) (fun h => absurd h (by decide)) (fun _ => ?_)
              iterate 2 ((repeat first | refine Qo ?_ | refine Qn ?_); (first | (refine QK (by kernel_rfl) ?_; intro K_ hK_; simp -implicitDefEqProofs (disch := (try simp only [sl]); try omega) only [sm,QJ,Qj,Qi,Qq,QC,bd,look,aput,QI,abin,anil,ty,↓reduceIte,Nat.reduceEqDiff,Nat.reduceAdd,Nat.reduceSub,Nat.reduceMul,Int.reduceLT,Int.reduceLE,Int.reduceNeg,Int.reduceToNat,reduceCtorEq,Nat.reduceBEq,Nat.reduceBNe,Qk,Qe,Value.cells,am,mm,keep, f_, fo_, aint, lv, hc2, hkv0, hwn, hjj]; refine hK_ _ _ ?_; clear hK_ K_; repeat first | refine QL ?_ | refine QM ?_) | (refine awp_skip ?_; repeat first | refine QL ?_ | refine QM ?_)))
              refine ⟨(j + 1, 0), ⟨by simp only []; omega, .inl ⟨rfl, fun m hm => by simp only [] at hm; rcases Nat.lt_or_ge m j with h | h; exact heq m h; exact (show m = j by omega) ▸ hq⟩⟩, (by repeat first | exact Forgets.nil | refine Forgets.cons (by first | (simp only [look, ↓reduceIte, Nat.reduceEqDiff]; done) | (simp only [look, ↓reduceIte, Nat.reduceEqDiff]; rfl) | simp [look, hjj]) ?_), ?_⟩
              first | omega | exact ⟨rfl, by omega⟩ | exact ⟨rfl, by simp only []; omega⟩ | (simp only []; omega)
            · have hn : ((((pgA (lsA page i)).getD j 0).toNat : Int) != ((page.getD j 0).toNat : Int)) = true := by
                rw [bne_iff_ne]; intro h; exact hq (UInt8.toNat_inj.1 (by omega))
              iterate 2 ((repeat first | refine Qo ?_ | refine Qn ?_); (first | (refine awp_region_drawK (id := 14) [(0, []), (1, []), (2, []), (3, []), (4, []), (5, []), (6, []), (7, []), (8, [])] mixed (by kernel_rfl) ?_; intro K_ hK_; simp -implicitDefEqProofs (disch := (try simp only [sl]); try omega) only [sm,aSel,Qu,Qv,Qw,Qx,Qy,Qj,Qi,Qq,QC,Qz,bd,QF,look,aput,QI,abin,anil,Qb,QA,ty,↓reduceIte,Nat.reduceEqDiff,Nat.reduceAdd,Nat.reduceSub,Nat.reduceMul,Int.reduceLT,Int.reduceLE,Int.reduceNeg,Int.reduceToNat,reduceCtorEq,Nat.reduceBEq,Nat.reduceBNe,Qk,Qe,Value.cells,am,mm,keep, f_, fo_, aint, lv, hc2, hkv0, hwn, cx, hxi, hcv3, kv, lm, hn, hj2, hj3, hj4]; refine hK_ _ _ ?_; clear hK_ K_; repeat first | refine QL ?_ | refine QM ?_) | (refine awp_skip ?_; repeat first | refine QL ?_ | refine QM ?_)))
              repeat first | refine Qo ?_ | refine Qn ?_
              refine awp_if true rfl (by simp only [aeval_tmp, look, ↓reduceIte, Nat.reduceEqDiff]; try rfl) (fun _ => ?_) (fun h => absurd h (by decide))
              iterate 2 ((repeat first | refine Qo ?_ | refine Qn ?_); (first | (refine QK (by kernel_rfl) ?_; intro K_ hK_; simp -implicitDefEqProofs (disch := (try simp only [sl]); try omega) only [sm,QJ,Qj,Qi,Qq,QC,bd,look,aput,QI,abin,anil,ty,↓reduceIte,Nat.reduceEqDiff,Nat.reduceAdd,Nat.reduceSub,Nat.reduceMul,Int.reduceLT,Int.reduceLE,Int.reduceNeg,Int.reduceToNat,reduceCtorEq,Nat.reduceBEq,Nat.reduceBNe,Qk,Qe,Value.cells,am,mm,keep, f_, fo_, aint, lv, hc2, hkv0, hwn, hjj]; refine hK_ _ _ ?_; clear hK_ K_; repeat first | refine QL ?_ | refine QM ?_)))
              refine ⟨(j + 1, 9), ⟨by simp only []; omega, .inr ⟨rfl, fun h => hq (by rw [h])⟩⟩, (by repeat first | exact Forgets.nil | refine Forgets.cons (by first | (simp only [look, ↓reduceIte, Nat.reduceEqDiff]; done) | (simp only [look, ↓reduceIte, Nat.reduceEqDiff]; rfl) | simp [look, hjj]) ?_), ?_⟩
              first | omega | exact ⟨rfl, by omega⟩ | exact ⟨rfl, by simp only []; omega⟩ | (simp only []; omega)
          · obtain rfl : j = 256 := by omega
            have hj3 : ¬ (((256 : Nat) : Int) < (page.length : Int)) := by omega
            have hbe : pgA (lsA page i) = page := by
              apply List.ext_getElem (by rw [hpl, hl])
              intro m h1 h2
              have := heq m (by omega)
              rw [List.getD_eq_getElem?_getD, List.getD_eq_getElem?_getD, List.getElem?_eq_getElem h1, List.getElem?_eq_getElem h2] at this
              exact this
            have hG : okA page := (allA_iff hl).1 (by rw [← hi']; exact ⟨hk, hbe⟩)
            have hi2 : i = nB page := by have := hG.2.1; omega
            iterate 1 ((repeat first | refine Qo ?_ | refine Qn ?_); (first | (refine QK (by kernel_rfl) ?_; intro K_ hK_; simp -implicitDefEqProofs (disch := (try simp only [sl]); try omega) only [sm,QJ,Qj,Qi,Qq,QC,bd,look,aput,QI,abin,anil,ty,↓reduceIte,Nat.reduceEqDiff,Nat.reduceAdd,Nat.reduceSub,Nat.reduceMul,Int.reduceLT,Int.reduceLE,Int.reduceNeg,Int.reduceToNat,reduceCtorEq,Nat.reduceBEq,Nat.reduceBNe,Qk,Qe,Value.cells,am,mm,keep, f_, fo_, aint, lv, hc2, hkv0, hwn, hj3]; refine hK_ _ _ ?_; clear hK_ K_; repeat first | refine QL ?_ | refine QM ?_)))
            repeat first | refine Qo ?_ | refine Qn ?_
            refine awp_if false rfl (by simp only [aeval_tmp, look, ↓reduceIte, Nat.reduceEqDiff]; try rfl) (fun h => absurd h (by decide)) (fun _ => ?_)
            iterate 2 ((repeat first | refine Qo ?_ | refine Qn ?_); (first | (refine QK (by kernel_rfl) ?_; intro K_ hK_; simp -implicitDefEqProofs (disch := (try simp only [sl]); try omega) only [sm,QJ,Qj,Qi,Qq,QC,bd,look,aput,QI,abin,anil,ty,↓reduceIte,Nat.reduceEqDiff,Nat.reduceAdd,Nat.reduceSub,Nat.reduceMul,Int.reduceLT,Int.reduceLE,Int.reduceNeg,Int.reduceToNat,reduceCtorEq,Nat.reduceBEq,Nat.reduceBNe,Qk,Qe,Value.cells,am,mm,keep, f_, fo_, aint, lv, hc2, hkv0, hwn, n00]; refine hK_ _ _ ?_; clear hK_ K_; repeat first | refine QL ?_ | refine QM ?_) | (refine awp_exit ?_; (repeat first | refine aThen_exit ?_ | refine aIn_out rfl ?_); refine aIn_here ?_; repeat first | refine QL ?_ | refine QM ?_)))
            repeat first | refine Qo ?_ | refine Qn ?_
            refine awp_if false rfl (by simp only [aeval_tmp, look, ↓reduceIte, Nat.reduceEqDiff]; try rfl) (fun h => absurd h (by decide)) (fun _ => ?_)
            iterate 2 ((repeat first | refine Qo ?_ | refine Qn ?_); (first | (refine QK (by kernel_rfl) ?_; intro K_ hK_; simp -implicitDefEqProofs (disch := (try simp only [sl]); try omega) only [sm,QJ,Qj,Qi,Qq,QC,bd,look,aput,ty,↓reduceIte,Nat.reduceEqDiff,Nat.reduceAdd,Nat.reduceSub,Nat.reduceMul,Int.reduceLT,Int.reduceLE,Int.reduceNeg,Int.reduceToNat,reduceCtorEq,Nat.reduceBEq,Nat.reduceBNe,Qk,Qe,Value.cells,am,mm,keep, f_, fo_, aint, lv, hc2, hkv0, hwn]; refine hK_ _ _ ?_; clear hK_ K_; repeat first | refine QL ?_ | refine QM ?_) | (refine awp_skip ?_; repeat first | refine QL ?_ | refine QM ?_)))
            first | refine awp_ret ?_ | skip
            show ∃ v, aresults Tryd.prog Tryd.f13 _ _ = some v ∧ _
            rw [aresults_2 (r := .tmp 2) (s := .tmp 3) (by kernel_rfl)]
            simp -implicitDefEqProofs (disch := (try simp only [sl]); try omega) only [aresult, Option.some.injEq, exists_eq_left', sm,Qj,Qi,Qq,QC,Qz,bd,QF,look,aput,QB,Qf,QA,ty,↓reduceIte,Nat.reduceEqDiff,Nat.reduceAdd,Nat.reduceSub,Nat.reduceMul,Int.reduceLT,Int.reduceLE,Int.reduceNeg,Int.reduceToNat,reduceCtorEq,Nat.reduceBEq,Nat.reduceBNe,Qk,Qe,Value.cells,am,mm,keep, f_, fo_, aint, lv, hc2, hkv0, hwn]
            rw [paE, paL, if_pos hl, if_pos hG, if_pos hG, ← hi2, lsA_length]
            exact ⟨⟨_, rfl, o2.mono e3⟩, x3⟩
        · have hG : ¬ okA page := fun h => hne (by have := ((allA_iff hl).2 h).2; rwa [← hi'] at this)
          by_cases hj2 : j < 256
          · have hj3 : (j : Int) < (page.length : Int) := by omega
            iterate 1 ((repeat first | refine Qo ?_ | refine Qn ?_); (first | (refine QK (by kernel_rfl) ?_; intro K_ hK_; simp -implicitDefEqProofs (disch := (try simp only [sl]); try omega) only [sm,QJ,Qj,Qi,Qq,QC,bd,look,aput,QI,abin,anil,ty,↓reduceIte,Nat.reduceEqDiff,Nat.reduceAdd,Nat.reduceSub,Nat.reduceMul,Int.reduceLT,Int.reduceLE,Int.reduceNeg,Int.reduceToNat,reduceCtorEq,Nat.reduceBEq,Nat.reduceBNe,Qk,Qe,Value.cells,am,mm,keep, f_, fo_, aint, lv, hc2, hkv0, hwn, hj3, h90]; refine hK_ _ _ ?_; clear hK_ K_; repeat first | refine QL ?_ | refine QM ?_)))
            repeat first | refine Qo ?_ | refine Qn ?_
            refine awp_if false rfl (by simp only [aeval_tmp, look, ↓reduceIte, Nat.reduceEqDiff]; try rfl) (fun h => absurd h (by decide)) (fun _ => ?_)
            iterate 2 ((repeat first | refine Qo ?_ | refine Qn ?_); (first | (refine QK (by kernel_rfl) ?_; intro K_ hK_; simp -implicitDefEqProofs (disch := (try simp only [sl]); try omega) only [sm,QJ,Qj,Qi,Qq,QC,bd,look,aput,QI,abin,anil,ty,↓reduceIte,Nat.reduceEqDiff,Nat.reduceAdd,Nat.reduceSub,Nat.reduceMul,Int.reduceLT,Int.reduceLE,Int.reduceNeg,Int.reduceToNat,reduceCtorEq,Nat.reduceBEq,Nat.reduceBNe,Qk,Qe,Value.cells,am,mm,keep, f_, fo_, aint, lv, hc2, hkv0, hwn, n90]; refine hK_ _ _ ?_; clear hK_ K_; repeat first | refine QL ?_ | refine QM ?_) | (refine awp_exit ?_; (repeat first | refine aThen_exit ?_ | refine aIn_out rfl ?_); refine aIn_here ?_; repeat first | refine QL ?_ | refine QM ?_)))
            repeat first | refine Qo ?_ | refine Qn ?_
            refine awp_if true rfl (by simp only [aeval_tmp, look, ↓reduceIte, Nat.reduceEqDiff]; try rfl) (fun _ => ?_) (fun h => absurd h (by decide))
            iterate 1 ((repeat first | refine Qo ?_ | refine Qn ?_); (first | (refine QK (by kernel_rfl) ?_; intro K_ hK_; simp -implicitDefEqProofs (disch := (try simp only [sl]); try omega) only [sm,QJ,Qj,Qi,Qq,QC,bd,look,aput,ty,↓reduceIte,Nat.reduceEqDiff,Nat.reduceAdd,Nat.reduceSub,Nat.reduceMul,Int.reduceLT,Int.reduceLE,Int.reduceNeg,Int.reduceToNat,reduceCtorEq,Nat.reduceBEq,Nat.reduceBNe,Qk,Qe,Value.cells,am,mm,keep, f_, fo_, aint, lv, hc2, hkv0, hwn]; refine hK_ _ _ ?_; clear hK_ K_; repeat first | refine QL ?_ | refine QM ?_)))
            first | refine awp_ret ?_ | skip
            show ∃ v, aresults Tryd.prog Tryd.f13 _ _ = some v ∧ _
            rw [aresults_2 (r := .tmp 2) (s := .tmp 3) (by kernel_rfl)]
            simp -implicitDefEqProofs (disch := (try simp only [sl]); try omega) only [aresult, Option.some.injEq, exists_eq_left', sm,Qj,Qi,Qq,QC,Qz,bd,QF,look,aput,QB,Qf,QA,ty,↓reduceIte,Nat.reduceEqDiff,Nat.reduceAdd,Nat.reduceSub,Nat.reduceMul,Int.reduceLT,Int.reduceLE,Int.reduceNeg,Int.reduceToNat,reduceCtorEq,Nat.reduceBEq,Nat.reduceBNe,Qk,Qe,Value.cells,am,mm,keep, f_, fo_, aint, lv, hc2, hkv0, hwn]
            rw [paE, paL, if_pos hl, if_neg hG, if_neg hG]
            exact ⟨⟨_, rfl, OSn.none _⟩, x3⟩
          · have hj3 : ¬ ((j : Int) < (page.length : Int)) := by omega
            iterate 1 ((repeat first | refine Qo ?_ | refine Qn ?_); (first | (refine QK (by kernel_rfl) ?_; intro K_ hK_; simp -implicitDefEqProofs (disch := (try simp only [sl]); try omega) only [sm,QJ,Qj,Qi,Qq,QC,bd,look,aput,QI,abin,anil,ty,↓reduceIte,Nat.reduceEqDiff,Nat.reduceAdd,Nat.reduceSub,Nat.reduceMul,Int.reduceLT,Int.reduceLE,Int.reduceNeg,Int.reduceToNat,reduceCtorEq,Nat.reduceBEq,Nat.reduceBNe,Qk,Qe,Value.cells,am,mm,keep, f_, fo_, aint, lv, hc2, hkv0, hwn, hj3]; refine hK_ _ _ ?_; clear hK_ K_; repeat first | refine QL ?_ | refine QM ?_)))
            repeat first | refine Qo ?_ | refine Qn ?_
            refine awp_if false rfl (by simp only [aeval_tmp, look, ↓reduceIte, Nat.reduceEqDiff]; try rfl) (fun h => absurd h (by decide)) (fun _ => ?_)
            iterate 2 ((repeat first | refine Qo ?_ | refine Qn ?_); (first | (refine QK (by kernel_rfl) ?_; intro K_ hK_; simp -implicitDefEqProofs (disch := (try simp only [sl]); try omega) only [sm,QJ,Qj,Qi,Qq,QC,bd,look,aput,QI,abin,anil,ty,↓reduceIte,Nat.reduceEqDiff,Nat.reduceAdd,Nat.reduceSub,Nat.reduceMul,Int.reduceLT,Int.reduceLE,Int.reduceNeg,Int.reduceToNat,reduceCtorEq,Nat.reduceBEq,Nat.reduceBNe,Qk,Qe,Value.cells,am,mm,keep, f_, fo_, aint, lv, hc2, hkv0, hwn, n90]; refine hK_ _ _ ?_; clear hK_ K_; repeat first | refine QL ?_ | refine QM ?_) | (refine awp_exit ?_; (repeat first | refine aThen_exit ?_ | refine aIn_out rfl ?_); refine aIn_here ?_; repeat first | refine QL ?_ | refine QM ?_)))
            repeat first | refine Qo ?_ | refine Qn ?_
            refine awp_if true rfl (by simp only [aeval_tmp, look, ↓reduceIte, Nat.reduceEqDiff]; try rfl) (fun _ => ?_) (fun h => absurd h (by decide))
            iterate 1 ((repeat first | refine Qo ?_ | refine Qn ?_); (first | (refine QK (by kernel_rfl) ?_; intro K_ hK_; simp -implicitDefEqProofs (disch := (try simp only [sl]); try omega) only [sm,QJ,Qj,Qi,Qq,QC,bd,look,aput,ty,↓reduceIte,Nat.reduceEqDiff,Nat.reduceAdd,Nat.reduceSub,Nat.reduceMul,Int.reduceLT,Int.reduceLE,Int.reduceNeg,Int.reduceToNat,reduceCtorEq,Nat.reduceBEq,Nat.reduceBNe,Qk,Qe,Value.cells,am,mm,keep, f_, fo_, aint, lv, hc2, hkv0, hwn]; refine hK_ _ _ ?_; clear hK_ K_; repeat first | refine QL ?_ | refine QM ?_)))
            first | refine awp_ret ?_ | skip
            show ∃ v, aresults Tryd.prog Tryd.f13 _ _ = some v ∧ _
            rw [aresults_2 (r := .tmp 2) (s := .tmp 3) (by kernel_rfl)]
            simp -implicitDefEqProofs (disch := (try simp only [sl]); try omega) only [aresult, Option.some.injEq, exists_eq_left', sm,Qj,Qi,Qq,QC,Qz,bd,QF,look,aput,QB,Qf,QA,ty,↓reduceIte,Nat.reduceEqDiff,Nat.reduceAdd,Nat.reduceSub,Nat.reduceMul,Int.reduceLT,Int.reduceLE,Int.reduceNeg,Int.reduceToNat,reduceCtorEq,Nat.reduceBEq,Nat.reduceBNe,Qk,Qe,Value.cells,am,mm,keep, f_, fo_, aint, lv, hc2, hkv0, hwn]
            rw [paE, paL, if_pos hl, if_neg hG, if_neg hG]
            exact ⟨⟨_, rfl, OSn.none _⟩, x3⟩
      · have hE : ltE (lsA page i) = 1 := by rw [ltE, if_neg hk]
        have hG : ¬ okA page := fun h => hk (by have := ((allA_iff hl).2 h).1; rwa [← hi'] at this)
        have h10 : ((1 : Int) == 0) = false := rfl
        have n10 : ((1 : Int) != 0) = true := rfl
        have h0l : (0 : Int) < (page.length : Int) := by omega
        rw [hE]
        try simp -implicitDefEqProofs (disch := (try simp only [sl]); try omega) only [sm,QJ,Qj,Qi,Qq,QC,bd,look,aput,Qm,Qh,ty,↓reduceIte,Nat.reduceEqDiff,Nat.reduceAdd,Nat.reduceSub,Nat.reduceMul,Int.reduceLT,Int.reduceLE,Int.reduceNeg,Int.reduceToNat,reduceCtorEq,Nat.reduceBEq,Nat.reduceBNe,Qk,Qe,Value.cells,am,mm,keep, f_, fo_, aint, lv, hc2, hkv0, hwn]
        try (refine hK_ _ _ ?_; clear hK_ K_; repeat first | refine QL ?_ | refine QM ?_)
        iterate 1 ((repeat first | refine Qo ?_ | refine Qn ?_); (first | (refine QK (by kernel_rfl) ?_; intro K_ hK_; simp -implicitDefEqProofs (disch := (try simp only [sl]); try omega) only [sm,QJ,Qj,Qi,Qq,QC,bd,look,aput,ty,↓reduceIte,Nat.reduceEqDiff,Nat.reduceAdd,Nat.reduceSub,Nat.reduceMul,Int.reduceLT,Int.reduceLE,Int.reduceNeg,Int.reduceToNat,reduceCtorEq,Nat.reduceBEq,Nat.reduceBNe,Qk,Qe,Value.cells,am,mm,keep, f_, fo_, aint, lv, hc2, hkv0, hwn]; refine hK_ _ _ ?_; clear hK_ K_; repeat first | refine QL ?_ | refine QM ?_)))
        repeat first | refine Qo ?_ | refine Qn ?_
        refine awp_forK [0, 4, 9] (fun x : Nat => [(11, .int .i64 0), (10, .int .i64 1)]) (fun x : Nat => H3) (fun x : Nat => x = 0) (fun x : Nat => 0) (0) (rfl) (by repeat first | exact Forgets.nil | refine Forgets.cons (by first | (simp only [look, ↓reduceIte, Nat.reduceEqDiff]; done) | (simp only [look, ↓reduceIte, Nat.reduceEqDiff]; rfl) | simp [look, hjj]) ?_) rfl ?_
        rintro x rfl
        iterate 1 ((repeat first | refine Qo ?_ | refine Qn ?_); (first | (refine QK (by kernel_rfl) ?_; intro K_ hK_; simp -implicitDefEqProofs (disch := (try simp only [sl]); try omega) only [sm,QJ,Qj,Qi,Qq,QC,bd,look,aput,QI,abin,anil,ty,↓reduceIte,Nat.reduceEqDiff,Nat.reduceAdd,Nat.reduceSub,Nat.reduceMul,Int.reduceLT,Int.reduceLE,Int.reduceNeg,Int.reduceToNat,reduceCtorEq,Nat.reduceBEq,Nat.reduceBNe,Qk,Qe,Value.cells,am,mm,keep, f_, fo_, aint, lv, hc2, hkv0, hwn, h0l, h10]; refine hK_ _ _ ?_; clear hK_ K_; repeat first | refine QL ?_ | refine QM ?_)))
        repeat first | refine Qo ?_ | refine Qn ?_
        refine awp_if false rfl (by simp only [aeval_tmp, look, ↓reduceIte, Nat.reduceEqDiff]; try rfl) (fun h => absurd h (by decide)) (fun _ => ?_)
        iterate 2 ((repeat first | refine Qo ?_ | refine Qn ?_); (first | (refine QK (by kernel_rfl) ?_; intro K_ hK_; simp -implicitDefEqProofs (disch := (try simp only [sl]); try omega) only [sm,QJ,Qj,Qi,Qq,QC,bd,look,aput,QI,abin,anil,ty,↓reduceIte,Nat.reduceEqDiff,Nat.reduceAdd,Nat.reduceSub,Nat.reduceMul,Int.reduceLT,Int.reduceLE,Int.reduceNeg,Int.reduceToNat,reduceCtorEq,Nat.reduceBEq,Nat.reduceBNe,Qk,Qe,Value.cells,am,mm,keep, f_, fo_, aint, lv, hc2, hkv0, hwn, n10]; refine hK_ _ _ ?_; clear hK_ K_; repeat first | refine QL ?_ | refine QM ?_) | (refine awp_exit ?_; (repeat first | refine aThen_exit ?_ | refine aIn_out rfl ?_); refine aIn_here ?_; repeat first | refine QL ?_ | refine QM ?_)))
        repeat first | refine Qo ?_ | refine Qn ?_
        refine awp_if true rfl (by simp only [aeval_tmp, look, ↓reduceIte, Nat.reduceEqDiff]; try rfl) (fun _ => ?_) (fun h => absurd h (by decide))
        iterate 1 ((repeat first | refine Qo ?_ | refine Qn ?_); (first | (refine QK (by kernel_rfl) ?_; intro K_ hK_; simp -implicitDefEqProofs (disch := (try simp only [sl]); try omega) only [sm,QJ,Qj,Qi,Qq,QC,bd,look,aput,ty,↓reduceIte,Nat.reduceEqDiff,Nat.reduceAdd,Nat.reduceSub,Nat.reduceMul,Int.reduceLT,Int.reduceLE,Int.reduceNeg,Int.reduceToNat,reduceCtorEq,Nat.reduceBEq,Nat.reduceBNe,Qk,Qe,Value.cells,am,mm,keep, f_, fo_, aint, lv, hc2, hkv0, hwn]; refine hK_ _ _ ?_; clear hK_ K_; repeat first | refine QL ?_ | refine QM ?_)))
        first | refine awp_ret ?_ | skip
        show ∃ v, aresults Tryd.prog Tryd.f13 _ _ = some v ∧ _
        rw [aresults_2 (r := .tmp 2) (s := .tmp 3) (by kernel_rfl)]
        simp -implicitDefEqProofs (disch := (try simp only [sl]); try omega) only [aresult, Option.some.injEq, exists_eq_left', sm,Qj,Qi,Qq,QC,Qz,bd,QF,look,aput,QB,Qf,QA,ty,↓reduceIte,Nat.reduceEqDiff,Nat.reduceAdd,Nat.reduceSub,Nat.reduceMul,Int.reduceLT,Int.reduceLE,Int.reduceNeg,Int.reduceToNat,reduceCtorEq,Nat.reduceBEq,Nat.reduceBNe,Qk,Qe,Value.cells,am,mm,keep, f_, fo_, aint, lv, hc2, hkv0, hwn]
        rw [paE, paL, if_pos hl, if_neg hG, if_neg hG]
        exact ⟨⟨_, rfl, OSn.none _⟩, x3⟩
  · have hb : ((page.length : Int) != 256) = true := by rw [bne_iff_ne]; omega
    have hG : ¬ okA page := fun h => hl h.1
    iterate 1 ((repeat first | refine Qo ?_ | refine Qn ?_); (first | (refine QK (by kernel_rfl) ?_; intro K_ hK_; simp -implicitDefEqProofs (disch := (try simp only [sl]); try omega) only [sm,QJ,Qj,Qi,Qq,QC,bd,look,aput,QI,abin,anil,ty,↓reduceIte,Nat.reduceEqDiff,Nat.reduceAdd,Nat.reduceSub,Nat.reduceMul,Int.reduceLT,Int.reduceLE,Int.reduceNeg,Int.reduceToNat,reduceCtorEq,Nat.reduceBEq,Nat.reduceBNe,Qk,Qe,Value.cells,am,mm,keep, f_, fo_, aint, lv, hb]; refine hK_ _ _ ?_; clear hK_ K_; repeat first | refine QL ?_ | refine QM ?_)))
    repeat first | refine Qo ?_ | refine Qn ?_
    refine awp_if true rfl (by simp only [aeval_tmp, look, ↓reduceIte, Nat.reduceEqDiff]; try rfl) (fun _ => ?_) (fun h => absurd h (by decide))
    iterate 1 ((repeat first | refine Qo ?_ | refine Qn ?_); (first | (refine QK (by kernel_rfl) ?_; intro K_ hK_; simp -implicitDefEqProofs (disch := (try simp only [sl]); try omega) only [sm,QJ,Qj,Qi,Qq,QC,bd,look,aput,ty,↓reduceIte,Nat.reduceEqDiff,Nat.reduceAdd,Nat.reduceSub,Nat.reduceMul,Int.reduceLT,Int.reduceLE,Int.reduceNeg,Int.reduceToNat,reduceCtorEq,Nat.reduceBEq,Nat.reduceBNe,Qk,Qe,Value.cells,am,mm,keep, f_, fo_, aint, lv]; refine hK_ _ _ ?_; clear hK_ K_; repeat first | refine QL ?_ | refine QM ?_)))
    first | refine awp_ret ?_ | skip
    show ∃ v, aresults Tryd.prog Tryd.f13 _ _ = some v ∧ _
    rw [aresults_2 (r := .tmp 2) (s := .tmp 3) (by kernel_rfl)]
    simp -implicitDefEqProofs (disch := (try simp only [sl]); try omega) only [aresult, Option.some.injEq, exists_eq_left', sm,Qj,Qi,Qq,QC,Qz,bd,QF,look,aput,QB,Qf,QA,ty,↓reduceIte,Nat.reduceEqDiff,Nat.reduceAdd,Nat.reduceSub,Nat.reduceMul,Int.reduceLT,Int.reduceLE,Int.reduceNeg,Int.reduceToNat,reduceCtorEq,Nat.reduceBEq,Nat.reduceBNe,Qk,Qe,Value.cells,am,mm,keep, f_, fo_, aint, lv]
    rw [paE, paL, if_neg hl, if_neg hG]
    exact ⟨⟨_, rfl, OSn.none _⟩, Ext.refl _⟩
end Go.Proofs.YtfdpmffcdafmgaaDoor
