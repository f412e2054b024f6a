/- What the document says of Clash, of two texts. -/
import Derived.Test.YtpiaohajbbdpdaaSbh
import Derived.Test.YtpiaohajbbdpdaaCsm
namespace Go.Proofs.Ytpiaohajbbdpdaa
open Go Go.RowKit
--hide
set_option linter.unusedSimpArgs false
set_option linter.unusedVariables false
set_option maxRecDepth 4000
/-- A row of digests in its own block. -/
def O32 (b : Nat) (H : AH) (s : Value) (l : List (List UInt8)) : Prop := (s = .slice none 0 0 ∧ l = []) ∨ ∃ g, s = .slice (some ⟨g, 0, none⟩) l.length 32 ∧ H[g]? = some (.own (l.flatten.map U8)) ∧ b ≤ g ∧ l.flatten.length = l.length * 32
theorem O32.mono {b : Nat} {H H' : AH} {s : Value} {l : List (List UInt8)} (h : O32 b H s l) (e : Ext H H') : O32 b H' s l := by
  rcases h with h | ⟨g, h1, h2, h3⟩
  · exact .inl h
  · exact .inr ⟨g, h1, e _ _ h2, h3⟩
theorem O32.app {b : Nat} {H : AH} {s : Value} {l : List (List UInt8)} {d : List UInt8} (h : O32 b H s l) (hd : d.length = 32) (hb : b ≤ H.length) (hl : l.length ≤ 1000) :
    ∃ s' H', aappend Try.prog (H ++ [ABlk.own (d.map U8)]) 74 74 s (.slice (some ⟨H.length, 0, none⟩) 1 32) = some (s', H') ∧ O32 b H' s' (l ++ [d]) ∧ ∀ E : AH, E.length ≤ b → Ext E H → Ext E H' := by
  have he : elemT Try.prog 74 = some (32, 32) := by simp only [ty]
  have hx : asrcZ Try.prog (H ++ [ABlk.own (d.map U8)]) 74 74 (.slice (some ⟨H.length, 0, none⟩) 1 32) 32 32 = some (d.map U8, 1) := by
    rw [asrcZ_slice (by simp only [ty])]
    unfold asrc
    have hc : AH.cells (H ++ [ABlk.own (d.map U8)]) H.length = some (d.map U8) := AH.cells_own (gpush _ _)
    have ht : sliceT Try.prog 74 = true := by simp only [ty]
    have htk : List.take 32 (d.map U8) = d.map U8 := List.take_of_length_le (by rw [List.length_map, hd]; exact Nat.le_refl _)
    simp only [ht, if_true, hc, List.drop_zero, Nat.one_mul, Nat.zero_add, List.length_map, hd, htk, all8, and_self, Nat.le_refl, Nat.succ_ne_zero, if_false, show ¬ (1 : Nat) = 0 by decide]
  have hlen : (H ++ [ABlk.own (d.map U8)]).length = H.length + 1 := by rw [List.length_append]; rfl
  rcases h with ⟨rfl, rfl⟩ | ⟨g, rfl, hg, hbg, hfl⟩
  · refine ⟨.slice (some ⟨(H ++ [ABlk.own (d.map U8)]).length, 0, none⟩) 1 32, H ++ [ABlk.own (d.map U8)] ++ [ABlk.own (d.map U8)], by unfold aappend; simp only [he, hx]; rw [if_neg (by decide), if_pos (by decide)], .inr ⟨_, rfl, by rw [gpush]; simp, by omega, by simp [hd]⟩, fun E hE hx => (hx.trans (Ext.push _ _)).trans (Ext.push _ _)⟩
  · have hg' : (H ++ [ABlk.own (d.map U8)] : AH)[g]? = some (.own (l.flatten.map U8)) := Ext.push _ _ _ _ hg
    refine ⟨.slice (some ⟨(H ++ [ABlk.own (d.map U8)]).length, 0, none⟩) (l.length + 1) 32, (H ++ [ABlk.own (d.map U8)]).set g .dead ++ [ABlk.own (((l.flatten.map U8).drop 0).take (l.length * 32) ++ d.map U8)], by unfold aappend; simp only [he, hx, hg']; rw [if_neg (by decide), if_pos ⟨trivial, by decide, by rw [List.length_map, hfl]; omega, by omega, by omega⟩], .inr ⟨(H ++ [ABlk.own (d.map U8)]).length, by rw [show (l ++ [d]).length = l.length + 1 by simp], ?_, by omega, by simp [hd, hfl]; omega⟩, fun E hE hx p y hy => ?_⟩
    · have : (H ++ [ABlk.own (d.map U8)]).length = ((H ++ [ABlk.own (d.map U8)]).set g ABlk.dead).length := by rw [List.length_set]
      rw [this, gpush, List.drop_zero, List.take_of_length_le (by rw [List.length_map, hfl]; exact Nat.le_refl _)]
      simp
    · have := got_lt hy
      refine Ext.push _ _ _ _ ?_
      rw [List.getElem?_set_ne (by omega)]
      exact Ext.push _ _ _ _ (hx _ _ hy)
theorem O32.at {b : Nat} {H : AH} {s : Value} {d0 d1 : List UInt8} (h : O32 b H s [d0, d1]) (h0 : d0.length = 32) (h1 : d1.length = 32) : ∃ g cs, s = .slice (some ⟨g, 0, none⟩) 2 32 ∧ H.cells g = some cs ∧ cs.length = 64 ∧ List.take 32 cs = d0.map U8 ∧ List.take 32 (cs.drop 32) = d1.map U8 := by
  rcases h with ⟨_, h⟩ | ⟨g, h2, h3, -, h4⟩
  · cases h
  · refine ⟨g, _, h2, AH.cells_own h3, by rw [List.length_map, h4]; rfl, ?_, ?_⟩
    · rw [List.flatten_cons, List.map_append, List.take_left' (by rw [List.length_map, h0])]
    · rw [List.flatten_cons, List.map_append, List.drop_left' (by rw [List.length_map, h0]), List.flatten_cons, List.flatten_nil, List.append_nil, List.take_of_length_le (by rw [List.length_map, h1]; exact Nat.le_refl _)]
theorem take22 (a b : List UInt8) : [a, b].take 2 = [a, b] := rfl
theorem pick2 {cv : List Value} {ov : Nat} {H : AH} {v0 v1 : Value} {t0 t1 : List UInt8} (k0 : cv[ov]? = some v0) (k1 : cv[ov + 1]? = some v1) (h0 : SL H v0 (t0.map U8)) (h1 : SL H v1 (t1.map U8)) (l0 : t0.length ≤ 1000000) (l1 : t1.length ≤ 1000000) (D : List UInt8 → List UInt8) (i : Nat) (hlt : i < 2) :
    ∃ (w : Value) (t : List UInt8), cv[ov + i]? = some w ∧ SL H w (t.map U8) ∧ t.length ≤ 1000000 ∧ [D t0, D t1].take i ++ [D t] = [D t0, D t1].take (i + 1) := by
  match i, hlt with
  | 0, _ => exact ⟨v0, t0, k0, h0, l0, rfl⟩
  | 1, _ => exact ⟨v1, t1, k1, h1, l1, rfl⟩
set_option maxHeartbeats 1000000 in
theorem refclash_calls (v v0 v1 : Value) (t0 t1 : List UInt8) (H : AH) (hv : SL H v [v0, v1]) (h0 : SL H v0 (t0.map U8)) (h1 : SL H v1 (t1.map U8)) (l0 : t0.length ≤ 1000000) (l1 : t1.length ≤ 1000000) :
    ACalls Try.prog 22 #[v] H fun r H' => (∃ a b : Int, r = .tuple #[.int .i64 a, .int .i64 b, .bool (decide (digest t0 = digest t1 ∧ t0 ≠ t1))]) ∧ Ext H H' := by
  have lv := alen_sl (P := Try.prog) (T := 44) (by simp only [ty]) hv
  have lv : alen Try.prog 44 v = some (.int .i64 2) := lv
  obtain ⟨gv, ov, ev, cv, rfl, hcv, hgv, hlv, hkv, hkv0⟩ := hv.at (by simp)
  have k0 : cv[ov]? = some v0 := hkv0
  have k1 : cv[ov + 1]? = some v1 := hkv 1 (by simp)
  have hd0 := digest_length t0
  have hd1 := digest_length t1
  have hlv : ov + 2 ≤ cv.length := hlv
  refine acalls_of_body Try.func22 rfl Try.ntmps22 (by simp) ?_
  simp only [argsT, Nat.reduceAdd]
  iterate 3 ((repeat first | refine Qo ?_ | refine Qn ?_); (first | (refine QK (by kernel_rfl) ?_; intro K_ hK_; simp -implicitDefEqProofs (disch := (try simp only [sl]); try omega) only [sm,QJ,Qj,Qi,Qq,QC,bd,look,aput,ty,↓reduceIte,Nat.reduceEqDiff,Nat.reduceAdd,Nat.reduceSub,Nat.reduceMul,Int.reduceLT,Int.reduceLE,Int.reduceNeg,Int.reduceToNat,reduceCtorEq,Nat.reduceBEq,Nat.reduceBNe,Qk,Qe,Value.cells,am,mm,keep, lv, bda, hd0, hd1]; refine hK_ _ _ ?_; clear hK_ K_; repeat first | refine QL ?_ | refine QM ?_)))
  repeat first | refine Qo ?_ | refine Qn ?_
  refine awp_forK [0] (fun x : Nat × Value × AH => [(6, I64 x.1), (5, x.2.1)]) (fun x : Nat × Value × AH => x.2.2) (fun x : Nat × Value × AH => x.1 ≤ 2 ∧ O32 H.length x.2.2 x.2.1 ([digest t0, digest t1].take x.1) ∧ Ext H x.2.2) (fun x : Nat × Value × AH => 2 - x.1) ((0, .slice none 0 0, H)) (⟨Nat.zero_le _, .inl ⟨rfl, rfl⟩, Ext.refl _⟩) (by repeat first | exact Forgets.nil | refine Forgets.cons (by first | (simp only [look, ↓reduceIte, Nat.reduceEqDiff]; done) | (simp only [look, ↓reduceIte, Nat.reduceEqDiff]; rfl) | simp [look]) ?_) rfl ?_
  rintro ⟨i, s, H1⟩ ⟨hi, o1, x1⟩
  simp only [] at hi o1 x1 ⊢
  have hcv1 := x1.cells hcv
  by_cases hlt : i < 2
  · obtain ⟨w, t, hw, ht, htl, hsn⟩ := pick2 k0 k1 h0 h1 l0 l1 digest i hlt
    iterate 1 ((repeat first | refine Qo ?_ | refine Qn ?_); (first | (refine QK (by kernel_rfl) ?_; intro K_ hK_; simp -implicitDefEqProofs (disch := (try simp only [sl]); try omega) only [sm,QJ,Qj,Qi,Qq,QC,bd,look,aput,QI,abin,anil,ty,↓reduceIte,Nat.reduceEqDiff,Nat.reduceAdd,Nat.reduceSub,Nat.reduceMul,Int.reduceLT,Int.reduceLE,Int.reduceNeg,Int.reduceToNat,reduceCtorEq,Nat.reduceBEq,Nat.reduceBNe,Qk,Qe,Value.cells,am,mm,keep, lv, bda, hd0, hd1, hlt, hcv1, hw]; refine hK_ _ _ ?_; clear hK_ K_; repeat first | refine QL ?_ | refine QM ?_)))
    repeat first | refine Qo ?_ | refine Qn ?_
    refine awp_if true rfl (by simp only [aeval_tmp, look, ↓reduceIte, Nat.reduceEqDiff]; try rfl) (fun _ => ?_) (fun h => absurd h (by decide))
    iterate 1 ((repeat first | refine Qo ?_ | refine Qn ?_); (first | (refine QK (by kernel_rfl) ?_; intro K_ hK_; simp -implicitDefEqProofs (disch := (try simp only [sl]); try omega) only [sm,QJ,Qj,Qi,Qq,QC,Qz,bd,QF,look,aput,Qm,Qb,QA,ty,↓reduceIte,Nat.reduceEqDiff,Nat.reduceAdd,Nat.reduceSub,Nat.reduceMul,Int.reduceLT,Int.reduceLE,Int.reduceNeg,Int.reduceToNat,reduceCtorEq,Nat.reduceBEq,Nat.reduceBNe,Qk,Qe,Value.cells,am,mm,keep, lv, bda, hd0, hd1, hlt, hcv1, hw]; refine hK_ _ _ ?_; clear hK_ K_; repeat first | refine QL ?_ | refine QM ?_) | (refine awp_skip ?_; repeat first | refine QL ?_ | refine QM ?_)))
    (repeat first | refine Qo ?_ | refine Qn ?_); refine QK (by kernel_rfl) ?_; intro K_ hK_; simp -implicitDefEqProofs (disch := (try simp only [sl]); try omega) only [sm,QJ,Qj,Qi,Qq,QC,Qz,bd,QF,look,aput,Qm,Qb,QA,ty,↓reduceIte,Nat.reduceEqDiff,Nat.reduceAdd,Nat.reduceSub,Nat.reduceMul,Int.reduceLT,Int.reduceLE,Int.reduceNeg,Int.reduceToNat,reduceCtorEq,Nat.reduceBEq,Nat.reduceBNe,Qk,Qe,Value.cells,am,mm,keep, lv, bda, hd0, hd1, hlt, hcv1, hw]
    refine ACalls.mono (refsum_calls w t H1 (ht.mono x1) (by omega)) ?_
    rintro _ H2 ⟨rfl, e2⟩
    have hdt := digest_length t
    obtain ⟨s', H3, ha, o3, x3⟩ := (o1.mono e2).app hdt (by have := x1.length; have := e2.length; omega) (by rw [List.length_take]; omega)
    rw [hsn] at o3
    try simp -implicitDefEqProofs (disch := (try simp only [sl]); try omega) only [sm,QJ,Qj,Qi,Qq,QC,Qz,bd,QF,look,aput,Qm,Qb,QA,ty,↓reduceIte,Nat.reduceEqDiff,Nat.reduceAdd,Nat.reduceSub,Nat.reduceMul,Int.reduceLT,Int.reduceLE,Int.reduceNeg,Int.reduceToNat,reduceCtorEq,Nat.reduceBEq,Nat.reduceBNe,Qk,Qe,Value.cells,am,mm,keep, lv, bda, hd0, hd1, hdt, ha]
    try (refine hK_ _ _ ?_; clear hK_ K_; repeat first | refine QL ?_ | refine QM ?_)
    iterate 1 ((repeat first | refine Qo ?_ | refine Qn ?_); (first | (refine QK (by kernel_rfl) ?_; intro K_ hK_; simp -implicitDefEqProofs (disch := (try simp only [sl]); try omega) only [sm,QJ,Qj,Qi,Qq,QC,bd,look,aput,QI,abin,anil,ty,↓reduceIte,Nat.reduceEqDiff,Nat.reduceAdd,Nat.reduceSub,Nat.reduceMul,Int.reduceLT,Int.reduceLE,Int.reduceNeg,Int.reduceToNat,reduceCtorEq,Nat.reduceBEq,Nat.reduceBNe,Qk,Qe,Value.cells,am,mm,keep, lv, bda, hd0, hd1]; refine hK_ _ _ ?_; clear hK_ K_; repeat first | refine QL ?_ | refine QM ?_)))
    refine ⟨(i + 1, s', H3), ⟨by simp only []; omega, o3, x3 H (Nat.le_refl _) (x1.trans e2)⟩, (by repeat first | exact Forgets.nil | refine Forgets.cons (by first | (simp only [look, ↓reduceIte, Nat.reduceEqDiff]; done) | (simp only [look, ↓reduceIte, Nat.reduceEqDiff]; rfl) | simp [look]) ?_), ?_⟩
    first | omega | exact ⟨rfl, by omega⟩ | exact ⟨rfl, by simp only []; omega⟩ | (simp only []; omega)
  obtain rfl : i = 2 := by omega
  iterate 1 ((repeat first | refine Qo ?_ | refine Qn ?_); (first | (refine QK (by kernel_rfl) ?_; intro K_ hK_; simp -implicitDefEqProofs (disch := (try simp only [sl]); try omega) only [sm,QJ,Qj,Qi,Qq,QC,bd,look,aput,QI,abin,anil,ty,↓reduceIte,Nat.reduceEqDiff,Nat.reduceAdd,Nat.reduceSub,Nat.reduceMul,Int.reduceLT,Int.reduceLE,Int.reduceNeg,Int.reduceToNat,reduceCtorEq,Nat.reduceBEq,Nat.reduceBNe,Qk,Qe,Value.cells,am,mm,keep, lv, bda, hd0, hd1, hlt]; refine hK_ _ _ ?_; clear hK_ K_; repeat first | refine QL ?_ | refine QM ?_)))
  repeat first | refine Qo ?_ | refine Qn ?_
  refine awp_if false rfl (by simp only [aeval_tmp, look, ↓reduceIte, Nat.reduceEqDiff]; try rfl) (fun h => absurd h (by decide)) (fun _ => ?_)
  rw [take22] at o1
  generalize digest t0 = D0 at *
  generalize digest t1 = D1 at *
  obtain ⟨g, cs, rfl, hcs, hcl, hc0, hc1⟩ := o1.at hd0 hd1
  have hae := aeq32 D0 D1 hd0 hd1
  iterate 2 ((repeat first | refine Qo ?_ | refine Qn ?_); (first | (refine QK (by kernel_rfl) ?_; intro K_ hK_; simp -implicitDefEqProofs (disch := (try simp only [sl]); try omega) only [sm,QJ,Qj,Qi,Qq,QC,bd,look,aput,ty,↓reduceIte,Nat.reduceEqDiff,Nat.reduceAdd,Nat.reduceSub,Nat.reduceMul,Int.reduceLT,Int.reduceLE,Int.reduceNeg,Int.reduceToNat,reduceCtorEq,Nat.reduceBEq,Nat.reduceBNe,Qk,Qe,Value.cells,am,mm,keep, lv, hcs, hcl, hc0, hc1, hcv1, k0, k1]; refine hK_ _ _ ?_; clear hK_ K_; repeat first | refine QL ?_ | refine QM ?_) | (refine awp_exit ?_; (repeat first | refine aThen_exit ?_ | refine aIn_out rfl ?_); refine aIn_here ?_; repeat first | refine QL ?_ | refine QM ?_)))
  repeat first | refine Qo ?_ | refine Qn ?_
  refine awp_forK [0, 5] (fun k : Nat => [(7, I64 k)]) (fun k : Nat => H1) (fun k : Nat => k ≤ 2 ∧ (k = 2 → ¬ (D0 = D1 ∧ t0 ≠ t1))) (fun k : Nat => 2 - k) (0) (⟨Nat.zero_le _, fun h => absurd h (by decide)⟩) (by repeat first | exact Forgets.nil | refine Forgets.cons (by first | (simp only [look, ↓reduceIte, Nat.reduceEqDiff]; done) | (simp only [look, ↓reduceIte, Nat.reduceEqDiff]; rfl) | simp [look]) ?_) rfl ?_
  rintro k ⟨hk, hC⟩
  by_cases hk2 : k < 2
  · -- R7
    iterate 1 ((repeat first | refine Qo ?_ | refine Qn ?_); (first | (refine QK (by kernel_rfl) ?_; intro K_ hK_; simp -implicitDefEqProofs (disch := (try simp only [sl]); try omega) only [sm,QJ,Qj,Qi,Qq,QC,bd,look,aput,QI,abin,anil,ty,↓reduceIte,Nat.reduceEqDiff,Nat.reduceAdd,Nat.reduceSub,Nat.reduceMul,Int.reduceLT,Int.reduceLE,Int.reduceNeg,Int.reduceToNat,reduceCtorEq,Nat.reduceBEq,Nat.reduceBNe,Qk,Qe,Value.cells,am,mm,keep, lv, hcs, hcl, hc0, hc1, hcv1, k0, k1, hk2]; refine hK_ _ _ ?_; clear hK_ K_; repeat first | refine QL ?_ | refine QM ?_)))
    repeat first | refine Qo ?_ | refine Qn ?_
    refine awp_if true rfl (by simp only [aeval_tmp, look, ↓reduceIte, Nat.reduceEqDiff]; try rfl) (fun _ => ?_) (fun h => absurd h (by decide))
    iterate 2 ((repeat first | refine Qo ?_ | refine Qn ?_); (first | (refine QK (by kernel_rfl) ?_; intro K_ hK_; simp -implicitDefEqProofs (disch := (try simp only [sl]); try omega) only [sm,QJ,Qj,Qi,Qq,QC,bd,look,aput,ty,↓reduceIte,Nat.reduceEqDiff,Nat.reduceAdd,Nat.reduceSub,Nat.reduceMul,Int.reduceLT,Int.reduceLE,Int.reduceNeg,Int.reduceToNat,reduceCtorEq,Nat.reduceBEq,Nat.reduceBNe,Qk,Qe,Value.cells,am,mm,keep, lv, hcs, hcl, hc0, hc1, hcv1, k0, k1, hk2]; refine hK_ _ _ ?_; clear hK_ K_; repeat first | refine QL ?_ | refine QM ?_) | (refine awp_skip ?_; repeat first | refine QL ?_ | refine QM ?_)))
    repeat first | refine Qo ?_ | refine Qn ?_
    refine awp_forK [0, 5, 7] (fun j : Nat => [(8, I64 j)]) (fun j : Nat => H1) (fun j : Nat => j ≤ k ∧ (k = 1 → j = 1 → ¬ (D0 = D1 ∧ t0 ≠ t1))) (fun j : Nat => k - j) (0) (⟨Nat.zero_le _, fun _ h => absurd h (by decide)⟩) (by repeat first | exact Forgets.nil | refine Forgets.cons (by first | (simp only [look, ↓reduceIte, Nat.reduceEqDiff]; done) | (simp only [look, ↓reduceIte, Nat.reduceEqDiff]; rfl) | simp [look]) ?_) rfl ?_
    rintro j ⟨hj, hCj⟩
    by_cases hjk : j < k
    · obtain rfl : k = 1 := by omega
      obtain rfl : j = 0 := by omega
      iterate 1 ((repeat first | refine Qo ?_ | refine Qn ?_); (first | (refine QK (by kernel_rfl) ?_; intro K_ hK_; simp -implicitDefEqProofs (disch := (try simp only [sl]); try omega) only [sm,QJ,Qj,Qi,Qq,QC,bd,look,aput,QI,abin,anil,ty,↓reduceIte,Nat.reduceEqDiff,Nat.reduceAdd,Nat.reduceSub,Nat.reduceMul,Int.reduceLT,Int.reduceLE,Int.reduceNeg,Int.reduceToNat,reduceCtorEq,Nat.reduceBEq,Nat.reduceBNe,Qk,Qe,Value.cells,am,mm,keep, lv, hcs, hcl, hc0, hc1, hcv1, k0, k1, hjk]; refine hK_ _ _ ?_; clear hK_ K_; repeat first | refine QL ?_ | refine QM ?_)))
      repeat first | refine Qo ?_ | refine Qn ?_
      refine awp_if true rfl (by simp only [aeval_tmp, look, ↓reduceIte, Nat.reduceEqDiff]; try rfl) (fun _ => ?_) (fun h => absurd h (by decide))
      by_cases hD : D0 = D1
      · have hd : decide (D0 = D1) = true := decide_eq_true hD
        by_cases ht : t0 = t1
        · have hs : decide (t0 = t1) = true := decide_eq_true ht
          iterate 1 ((repeat first | refine Qo ?_ | refine Qn ?_); (first | (refine awp_region_drawK (id := 12) [(0, []), (1, []), (2, []), (3, []), (4, []), (5, []), (6, []), (7, []), (8, []), (9, []), (10, []), (11, []), (12, []), (13, []), (14, []), (15, []), (16, []), (17, []), (18, []), (19, []), (20, [])] mixed (by kernel_rfl) ?_; intro K_ hK_; simp -implicitDefEqProofs (disch := (try simp only [sl]); try omega) only [sm,aSel,Qu,Qv,Qw,Qx,Qy,Qj,Qi,Qq,QC,Qz,bd,QF,look,aput,Qm,QI,abin,anil,QG,Qb,QA,ty,↓reduceIte,Nat.reduceEqDiff,Nat.reduceAdd,Nat.reduceSub,Nat.reduceMul,Int.reduceLT,Int.reduceLE,Int.reduceNeg,Int.reduceToNat,reduceCtorEq,Nat.reduceBEq,Nat.reduceBNe,Qk,Qe,Value.cells,am,mm,keep, lv, hcs, hcl, hc0, hc1, hcv1, k0, k1, hae, hd]; refine hK_ _ _ ?_; clear hK_ K_; repeat first | refine QL ?_ | refine QM ?_) | (refine awp_skip ?_; repeat first | refine QL ?_ | refine QM ?_)))
          (repeat first | refine Qo ?_ | refine Qn ?_); refine awp_region_drawK (id := 12) [(0, []), (1, []), (2, []), (3, []), (4, []), (5, []), (6, []), (7, []), (8, []), (9, []), (10, []), (11, []), (12, []), (13, []), (14, []), (15, []), (16, []), (17, []), (18, []), (19, []), (20, [])] mixed (by kernel_rfl) ?_; intro K_ hK_; simp -implicitDefEqProofs (disch := (try simp only [sl]); try omega) only [sm,aSel,Qu,Qv,Qw,Qx,Qy,Qj,Qi,Qq,QC,Qz,bd,QF,look,aput,Qm,QI,abin,anil,QG,Qb,QA,ty,↓reduceIte,Nat.reduceEqDiff,Nat.reduceAdd,Nat.reduceSub,Nat.reduceMul,Int.reduceLT,Int.reduceLE,Int.reduceNeg,Int.reduceToNat,reduceCtorEq,Nat.reduceBEq,Nat.reduceBNe,Qk,Qe,Value.cells,am,mm,keep, lv, hcs, hcl, hc0, hc1, hcv1, k0, k1, hae, hd]
          refine ACalls.mono (same_calls v0 v1 t0 t1 H1 (h0.mono x1) (h1.mono x1) (by omega)) ?_
          rintro _ _ ⟨rfl, hHH⟩
          rw [hHH]
          clear hHH
          simp -implicitDefEqProofs (disch := (try simp only [sl]); try omega) only [sm,aSel,Qu,Qv,Qw,Qx,Qy,Qj,Qi,Qq,QC,Qz,bd,QF,look,aput,Qm,QI,abin,anil,QG,Qb,QA,ty,↓reduceIte,Nat.reduceEqDiff,Nat.reduceAdd,Nat.reduceSub,Nat.reduceMul,Int.reduceLT,Int.reduceLE,Int.reduceNeg,Int.reduceToNat,reduceCtorEq,Nat.reduceBEq,Nat.reduceBNe,Qk,Qe,Value.cells,am,mm,keep, lv, hcs, hcl, hc0, hc1, hcv1, k0, k1]
          try (refine hK_ _ _ ?_; clear hK_ K_; repeat first | refine QL ?_ | refine QM ?_)
          try simp -implicitDefEqProofs (disch := (try simp only [sl]); try omega) only [sm,aSel,Qu,Qv,Qw,Qx,Qy,Qj,Qi,Qq,QC,Qz,bd,QF,look,aput,Qm,QI,abin,anil,QG,Qb,QA,ty,↓reduceIte,Nat.reduceEqDiff,Nat.reduceAdd,Nat.reduceSub,Nat.reduceMul,Int.reduceLT,Int.reduceLE,Int.reduceNeg,Int.reduceToNat,reduceCtorEq,Nat.reduceBEq,Nat.reduceBNe,Qk,Qe,Value.cells,am,mm,keep, lv, hcs, hcl, hc0, hc1, hcv1, k0, k1, hs, Bool.not_true]
          try (refine hK_ _ _ ?_; clear hK_ K_; repeat first | refine QL ?_ | refine QM ?_)
          repeat first | refine Qo ?_ | refine Qn ?_
          refine awp_if false rfl (by simp only [aeval_tmp, look, ↓reduceIte, Nat.reduceEqDiff]; try rfl) (fun h => absurd h (by decide)) (fun _ => ?_)
          iterate 2 ((repeat first | refine Qo ?_ | refine Qn ?_); (first | (refine QK (by kernel_rfl) ?_; intro K_ hK_; simp -implicitDefEqProofs (disch := (try simp only [sl]); try omega) only [sm,QJ,Qj,Qi,Qq,QC,bd,look,aput,QI,abin,anil,ty,↓reduceIte,Nat.reduceEqDiff,Nat.reduceAdd,Nat.reduceSub,Nat.reduceMul,Int.reduceLT,Int.reduceLE,Int.reduceNeg,Int.reduceToNat,reduceCtorEq,Nat.reduceBEq,Nat.reduceBNe,Qk,Qe,Value.cells,am,mm,keep, lv, hcs, hcl, hc0, hc1, hcv1, k0, k1]; refine hK_ _ _ ?_; clear hK_ K_; repeat first | refine QL ?_ | refine QM ?_) | (refine awp_skip ?_; repeat first | refine QL ?_ | refine QM ?_)))
          refine ⟨1, ⟨by omega, fun _ _ h => h.2 ht⟩, (by repeat first | exact Forgets.nil | refine Forgets.cons (by first | (simp only [look, ↓reduceIte, Nat.reduceEqDiff]; done) | (simp only [look, ↓reduceIte, Nat.reduceEqDiff]; rfl) | simp [look]) ?_), ?_⟩
          first | omega | exact ⟨rfl, by omega⟩ | exact ⟨rfl, by simp only []; omega⟩ | (simp only []; omega)
        · have hs : decide (t0 = t1) = false := decide_eq_false ht
          iterate 1 ((repeat first | refine Qo ?_ | refine Qn ?_); (first | (refine awp_region_drawK (id := 12) [(0, []), (1, []), (2, []), (3, []), (4, []), (5, []), (6, []), (7, []), (8, []), (9, []), (10, []), (11, []), (12, []), (13, []), (14, []), (15, []), (16, []), (17, []), (18, []), (19, []), (20, [])] mixed (by kernel_rfl) ?_; intro K_ hK_; simp -implicitDefEqProofs (disch := (try simp only [sl]); try omega) only [sm,aSel,Qu,Qv,Qw,Qx,Qy,Qj,Qi,Qq,QC,Qz,bd,QF,look,aput,Qm,QI,abin,anil,QG,Qb,QA,ty,↓reduceIte,Nat.reduceEqDiff,Nat.reduceAdd,Nat.reduceSub,Nat.reduceMul,Int.reduceLT,Int.reduceLE,Int.reduceNeg,Int.reduceToNat,reduceCtorEq,Nat.reduceBEq,Nat.reduceBNe,Qk,Qe,Value.cells,am,mm,keep, lv, hcs, hcl, hc0, hc1, hcv1, k0, k1, hae, hd]; refine hK_ _ _ ?_; clear hK_ K_; repeat first | refine QL ?_ | refine QM ?_) | (refine awp_skip ?_; repeat first | refine QL ?_ | refine QM ?_)))
          (repeat first | refine Qo ?_ | refine Qn ?_); refine awp_region_drawK (id := 12) [(0, []), (1, []), (2, []), (3, []), (4, []), (5, []), (6, []), (7, []), (8, []), (9, []), (10, []), (11, []), (12, []), (13, []), (14, []), (15, []), (16, []), (17, []), (18, []), (19, []), (20, [])] mixed (by kernel_rfl) ?_; intro K_ hK_; simp -implicitDefEqProofs (disch := (try simp only [sl]); try omega) only [sm,aSel,Qu,Qv,Qw,Qx,Qy,Qj,Qi,Qq,QC,Qz,bd,QF,look,aput,Qm,QI,abin,anil,QG,Qb,QA,ty,↓reduceIte,Nat.reduceEqDiff,Nat.reduceAdd,Nat.reduceSub,Nat.reduceMul,Int.reduceLT,Int.reduceLE,Int.reduceNeg,Int.reduceToNat,reduceCtorEq,Nat.reduceBEq,Nat.reduceBNe,Qk,Qe,Value.cells,am,mm,keep, lv, hcs, hcl, hc0, hc1, hcv1, k0, k1, hae, hd]
          refine ACalls.mono (same_calls v0 v1 t0 t1 H1 (h0.mono x1) (h1.mono x1) (by omega)) ?_
          rintro _ _ ⟨rfl, hHH⟩
          rw [hHH]
          clear hHH
          simp -implicitDefEqProofs (disch := (try simp only [sl]); try omega) only [sm,aSel,Qu,Qv,Qw,Qx,Qy,Qj,Qi,Qq,QC,Qz,bd,QF,look,aput,Qm,QI,abin,anil,QG,Qb,QA,ty,↓reduceIte,Nat.reduceEqDiff,Nat.reduceAdd,Nat.reduceSub,Nat.reduceMul,Int.reduceLT,Int.reduceLE,Int.reduceNeg,Int.reduceToNat,reduceCtorEq,Nat.reduceBEq,Nat.reduceBNe,Qk,Qe,Value.cells,am,mm,keep, lv, hcs, hcl, hc0, hc1, hcv1, k0, k1]
          try (refine hK_ _ _ ?_; clear hK_ K_; repeat first | refine QL ?_ | refine QM ?_)
          try simp -implicitDefEqProofs (disch := (try simp only [sl]); try omega) only [sm,aSel,Qu,Qv,Qw,Qx,Qy,Qj,Qi,Qq,QC,Qz,bd,QF,look,aput,Qm,QI,abin,anil,QG,Qb,QA,ty,↓reduceIte,Nat.reduceEqDiff,Nat.reduceAdd,Nat.reduceSub,Nat.reduceMul,Int.reduceLT,Int.reduceLE,Int.reduceNeg,Int.reduceToNat,reduceCtorEq,Nat.reduceBEq,Nat.reduceBNe,Qk,Qe,Value.cells,am,mm,keep, lv, hcs, hcl, hc0, hc1, hcv1, k0, k1, hs, Bool.not_false]
          try (refine hK_ _ _ ?_; clear hK_ K_; repeat first | refine QL ?_ | refine QM ?_)
          repeat first | refine Qo ?_ | refine Qn ?_
          refine awp_if true rfl (by simp only [aeval_tmp, look, ↓reduceIte, Nat.reduceEqDiff]; try rfl) (fun _ => ?_) (fun h => absurd h (by decide))
          iterate 1 ((repeat first | refine Qo ?_ | refine Qn ?_); (first | (refine QK (by kernel_rfl) ?_; intro K_ hK_; simp -implicitDefEqProofs (disch := (try simp only [sl]); try omega) only [sm,QJ,Qj,Qi,Qq,QC,bd,look,aput,ty,↓reduceIte,Nat.reduceEqDiff,Nat.reduceAdd,Nat.reduceSub,Nat.reduceMul,Int.reduceLT,Int.reduceLE,Int.reduceNeg,Int.reduceToNat,reduceCtorEq,Nat.reduceBEq,Nat.reduceBNe,Qk,Qe,Value.cells,am,mm,keep, lv, hcs, hcl, hc0, hc1, hcv1, k0, k1]; refine hK_ _ _ ?_; clear hK_ K_; repeat first | refine QL ?_ | refine QM ?_)))
          first | refine awp_ret ?_ | skip
          show ∃ v, aresults Try.prog Try.f22 _ _ = some v ∧ _
          rw [aresults_3 (r := .tmp 2) (s := .tmp 3) (u := .tmp 4) (by kernel_rfl)]
          simp -implicitDefEqProofs (disch := (try simp only [sl]); try omega) only [aresult, Option.some.injEq, exists_eq_left', sm,Qj,Qi,Qq,QC,Qz,bd,QF,look,aput,QB,Qf,QA,ty,↓reduceIte,Nat.reduceEqDiff,Nat.reduceAdd,Nat.reduceSub,Nat.reduceMul,Int.reduceLT,Int.reduceLE,Int.reduceNeg,Int.reduceToNat,reduceCtorEq,Nat.reduceBEq,Nat.reduceBNe,Qk,Qe,Value.cells,am,mm,keep, lv, hcs, hcl, hc0, hc1, hcv1, k0, k1]
          exact ⟨⟨0, 1, by rw [decide_eq_true (show D0 = D1 ∧ t0 ≠ t1 from ⟨hD, ht⟩)]; rfl⟩, x1⟩
      · have hd : decide (D0 = D1) = false := decide_eq_false hD
        iterate 1 ((repeat first | refine Qo ?_ | refine Qn ?_); (first | (refine awp_region_drawK (id := 12) [(0, []), (1, []), (2, []), (3, []), (4, []), (5, []), (6, []), (7, []), (8, []), (9, []), (10, []), (11, []), (12, []), (13, []), (14, []), (15, []), (16, []), (17, []), (18, []), (19, []), (20, [])] mixed (by kernel_rfl) ?_; intro K_ hK_; simp -implicitDefEqProofs (disch := (try simp only [sl]); try omega) only [sm,aSel,Qu,Qv,Qw,Qx,Qy,Qj,Qi,Qq,QC,Qz,bd,QF,look,aput,Qm,QI,abin,anil,QG,Qb,QA,ty,↓reduceIte,Nat.reduceEqDiff,Nat.reduceAdd,Nat.reduceSub,Nat.reduceMul,Int.reduceLT,Int.reduceLE,Int.reduceNeg,Int.reduceToNat,reduceCtorEq,Nat.reduceBEq,Nat.reduceBNe,Qk,Qe,Value.cells,am,mm,keep, lv, hcs, hcl, hc0, hc1, hcv1, k0, k1, hae, hd]; refine hK_ _ _ ?_; clear hK_ K_; repeat first | refine QL ?_ | refine QM ?_) | (refine awp_skip ?_; repeat first | refine QL ?_ | refine QM ?_)))
        (repeat first | refine Qo ?_ | refine Qn ?_); refine awp_region_drawK (id := 12) [(0, []), (1, []), (2, []), (3, []), (4, []), (5, []), (6, []), (7, []), (8, []), (9, []), (10, []), (11, []), (12, []), (13, []), (14, []), (15, []), (16, []), (17, []), (18, []), (19, []), (20, [])] mixed (by kernel_rfl) ?_; intro K_ hK_; simp -implicitDefEqProofs (disch := (try simp only [sl]); try omega) only [sm,aSel,Qu,Qv,Qw,Qx,Qy,Qj,Qi,Qq,QC,Qz,bd,QF,look,aput,Qm,QI,abin,anil,QG,Qb,QA,ty,↓reduceIte,Nat.reduceEqDiff,Nat.reduceAdd,Nat.reduceSub,Nat.reduceMul,Int.reduceLT,Int.reduceLE,Int.reduceNeg,Int.reduceToNat,reduceCtorEq,Nat.reduceBEq,Nat.reduceBNe,Qk,Qe,Value.cells,am,mm,keep, lv, hcs, hcl, hc0, hc1, hcv1, k0, k1, hae, hd]
        try simp -implicitDefEqProofs (disch := (try simp only [sl]); try omega) only [sm,aSel,Qu,Qv,Qw,Qx,Qy,Qj,Qi,Qq,QC,Qz,bd,QF,look,aput,Qm,QI,abin,anil,QG,Qb,QA,ty,↓reduceIte,Nat.reduceEqDiff,Nat.reduceAdd,Nat.reduceSub,Nat.reduceMul,Int.reduceLT,Int.reduceLE,Int.reduceNeg,Int.reduceToNat,reduceCtorEq,Nat.reduceBEq,Nat.reduceBNe,Qk,Qe,Value.cells,am,mm,keep, lv, hcs, hcl, hc0, hc1, hcv1, k0, k1, hae, hd]
        try (refine hK_ _ _ ?_; clear hK_ K_; repeat first | refine QL ?_ | refine QM ?_)
        repeat first | refine Qo ?_ | refine Qn ?_
        refine awp_if false rfl (by simp only [aeval_tmp, look, ↓reduceIte, Nat.reduceEqDiff]; try rfl) (fun h => absurd h (by decide)) (fun _ => ?_)
        iterate 2 ((repeat first | refine Qo ?_ | refine Qn ?_); (first | (refine QK (by kernel_rfl) ?_; intro K_ hK_; simp -implicitDefEqProofs (disch := (try simp only [sl]); try omega) only [sm,QJ,Qj,Qi,Qq,QC,bd,look,aput,QI,abin,anil,ty,↓reduceIte,Nat.reduceEqDiff,Nat.reduceAdd,Nat.reduceSub,Nat.reduceMul,Int.reduceLT,Int.reduceLE,Int.reduceNeg,Int.reduceToNat,reduceCtorEq,Nat.reduceBEq,Nat.reduceBNe,Qk,Qe,Value.cells,am,mm,keep, lv, hcs, hcl, hc0, hc1, hcv1, k0, k1]; refine hK_ _ _ ?_; clear hK_ K_; repeat first | refine QL ?_ | refine QM ?_) | (refine awp_skip ?_; repeat first | refine QL ?_ | refine QM ?_)))
        refine ⟨1, ⟨by omega, fun _ _ h => hD h.1⟩, (by repeat first | exact Forgets.nil | refine Forgets.cons (by first | (simp only [look, ↓reduceIte, Nat.reduceEqDiff]; done) | (simp only [look, ↓reduceIte, Nat.reduceEqDiff]; rfl) | simp [look]) ?_), ?_⟩
        first | omega | exact ⟨rfl, by omega⟩ | exact ⟨rfl, by simp only []; omega⟩ | (simp only []; omega)
    · obtain rfl : j = k := by omega
      iterate 1 ((repeat first | refine Qo ?_ | refine Qn ?_); (first | (refine QK (by kernel_rfl) ?_; intro K_ hK_; simp -implicitDefEqProofs (disch := (try simp only [sl]); try omega) only [sm,QJ,Qj,Qi,Qq,QC,bd,look,aput,QI,abin,anil,ty,↓reduceIte,Nat.reduceEqDiff,Nat.reduceAdd,Nat.reduceSub,Nat.reduceMul,Int.reduceLT,Int.reduceLE,Int.reduceNeg,Int.reduceToNat,reduceCtorEq,Nat.reduceBEq,Nat.reduceBNe,Qk,Qe,Value.cells,am,mm,keep, lv, hcs, hcl, hc0, hc1, hcv1, k0, k1, hjk]; refine hK_ _ _ ?_; clear hK_ K_; repeat first | refine QL ?_ | refine QM ?_)))
      repeat first | refine Qo ?_ | refine Qn ?_
      refine awp_if false rfl (by simp only [aeval_tmp, look, ↓reduceIte, Nat.reduceEqDiff]; try rfl) (fun h => absurd h (by decide)) (fun _ => ?_)
      iterate 2 ((repeat first | refine Qo ?_ | refine Qn ?_); (first | (refine QK (by kernel_rfl) ?_; intro K_ hK_; simp -implicitDefEqProofs (disch := (try simp only [sl]); try omega) only [sm,QJ,Qj,Qi,Qq,QC,bd,look,aput,QI,abin,anil,ty,↓reduceIte,Nat.reduceEqDiff,Nat.reduceAdd,Nat.reduceSub,Nat.reduceMul,Int.reduceLT,Int.reduceLE,Int.reduceNeg,Int.reduceToNat,reduceCtorEq,Nat.reduceBEq,Nat.reduceBNe,Qk,Qe,Value.cells,am,mm,keep, lv, hcs, hcl, hc0, hc1, hcv1, k0, k1]; refine hK_ _ _ ?_; clear hK_ K_; repeat first | refine QL ?_ | refine QM ?_) | (refine awp_exit ?_; (repeat first | refine aThen_exit ?_ | refine aIn_out rfl ?_); refine aIn_here ?_; repeat first | refine QL ?_ | refine QM ?_)))
      refine ⟨j + 1, ⟨by omega, fun h => hCj (by omega) (by omega)⟩, (by repeat first | exact Forgets.nil | refine Forgets.cons (by first | (simp only [look, ↓reduceIte, Nat.reduceEqDiff]; done) | (simp only [look, ↓reduceIte, Nat.reduceEqDiff]; rfl) | simp [look]) ?_), ?_⟩
      first | omega | exact ⟨rfl, by omega⟩ | exact ⟨rfl, by simp only []; omega⟩ | (simp only []; omega)
  obtain rfl : k = 2 := by omega
  iterate 1 ((repeat first | refine Qo ?_ | refine Qn ?_); (first | (refine QK (by kernel_rfl) ?_; intro K_ hK_; simp -implicitDefEqProofs (disch := (try simp only [sl]); try omega) only [sm,QJ,Qj,Qi,Qq,QC,bd,look,aput,QI,abin,anil,ty,↓reduceIte,Nat.reduceEqDiff,Nat.reduceAdd,Nat.reduceSub,Nat.reduceMul,Int.reduceLT,Int.reduceLE,Int.reduceNeg,Int.reduceToNat,reduceCtorEq,Nat.reduceBEq,Nat.reduceBNe,Qk,Qe,Value.cells,am,mm,keep, lv, hcs, hcl, hc0, hc1, hcv1, k0, k1, hk2]; refine hK_ _ _ ?_; clear hK_ K_; repeat first | refine QL ?_ | refine QM ?_)))
  repeat first | refine Qo ?_ | refine Qn ?_
  refine awp_if false rfl (by simp only [aeval_tmp, look, ↓reduceIte, Nat.reduceEqDiff]; try rfl) (fun h => absurd h (by decide)) (fun _ => ?_)
  iterate 2 ((repeat first | refine Qo ?_ | refine Qn ?_); (first | (refine QK (by kernel_rfl) ?_; intro K_ hK_; simp -implicitDefEqProofs (disch := (try simp only [sl]); try omega) only [sm,QJ,Qj,Qi,Qq,QC,bd,look,aput,ty,↓reduceIte,Nat.reduceEqDiff,Nat.reduceAdd,Nat.reduceSub,Nat.reduceMul,Int.reduceLT,Int.reduceLE,Int.reduceNeg,Int.reduceToNat,reduceCtorEq,Nat.reduceBEq,Nat.reduceBNe,Qk,Qe,Value.cells,am,mm,keep, lv, hcs, hcl, hc0, hc1, hcv1, k0, k1]; refine hK_ _ _ ?_; clear hK_ K_; repeat first | refine QL ?_ | refine QM ?_) | (refine awp_exit ?_; (repeat first | refine aThen_exit ?_ | refine aIn_out rfl ?_); refine aIn_here ?_; repeat first | refine QL ?_ | refine QM ?_)))
  first | refine awp_ret ?_ | skip
  show ∃ v, aresults Try.prog Try.f22 _ _ = some v ∧ _
  rw [aresults_3 (r := .tmp 2) (s := .tmp 3) (u := .tmp 4) (by kernel_rfl)]
  simp -implicitDefEqProofs (disch := (try simp only [sl]); try omega) only [aresult, Option.some.injEq, exists_eq_left', sm,Qj,Qi,Qq,QC,Qz,bd,QF,look,aput,QB,Qf,QA,ty,↓reduceIte,Nat.reduceEqDiff,Nat.reduceAdd,Nat.reduceSub,Nat.reduceMul,Int.reduceLT,Int.reduceLE,Int.reduceNeg,Int.reduceToNat,reduceCtorEq,Nat.reduceBEq,Nat.reduceBNe,Qk,Qe,Value.cells,am,mm,keep, lv, hcs, hcl, hc0, hc1, hcv1, k0, k1]
  exact ⟨⟨0, 0, by rw [decide_eq_false (hC rfl)]⟩, x1⟩
end Go.Proofs.Ytpiaohajbbdpdaa
