/- wrap: check, Halves, Wrap, Unwrap, Again. -/
import Derived.Test.YtelpdppdhimfoaaWp1
import Derived.Test.YtelpdppdhimfoaaPk2
import Derived.Test.YtelpdppdhimfoaaSt2
import Derived.Test.YtelpdppdhimfoaaBda
import Derived.Test.YtelpdppdhimfoaaC7
namespace Go.Proofs.Ytelpdppdhimfoaa
open Go Go.RowKit
--hide
set_option linter.unusedSimpArgs false
set_option linter.unusedVariables false
set_option maxRecDepth 4000
/-- A wrapped key. -/
structure WK where
  s : List UInt8
  r : Int
  k : List UInt8
  c : List UInt8
def WK.ok (w : WK) : Prop := w.s.length = 16 ∧ w.k.length = 32 ∧ w.c.length = 32
def wcells (s : List UInt8) (r : Int) (k c : List UInt8) : List Value := s.map U8 ++ ([.int .i64 r] ++ (k.map U8 ++ c.map U8))
def WK.cells (w : WK) : List Value := wcells w.s w.r w.k w.c
section
variable {s : List UInt8} {r : Int} {k c : List UInt8}
theorem wcells_length (h : WK.ok ⟨s, r, k, c⟩) : (wcells s r k c).length = 81 := by
  obtain ⟨h1, h2, h3⟩ := h
  simp only [] at h1 h2 h3
  simp only [wcells, List.length_append, List.length_map, h1, h2, h3, List.length_singleton]
theorem wcells_s (h : WK.ok ⟨s, r, k, c⟩) : (wcells s r k c).take 16 = s.map U8 := by
  have h1 : s.length = 16 := h.1
  rw [wcells, List.take_append_of_le_length (by rw [List.length_map, h1]; exact Nat.le_refl _), List.take_of_length_le (by rw [List.length_map, h1]; exact Nat.le_refl _)]
theorem wcells_s' (h : WK.ok ⟨s, r, k, c⟩) : ((wcells s r k c).drop 0).take 16 = s.map U8 := by rw [List.drop_zero, wcells_s h]
theorem wcells_r (h : WK.ok ⟨s, r, k, c⟩) : (wcells s r k c)[16]? = some (.int .i64 r) := by
  have h1 : s.length = 16 := h.1
  rw [wcells, List.getElem?_append_right (by rw [List.length_map, h1]; exact Nat.le_refl _), List.length_map, h1]
  rfl
theorem wcells_k' (h : WK.ok ⟨s, r, k, c⟩) : (wcells s r k c).drop 17 = k.map U8 ++ c.map U8 := by
  have h1 : s.length = 16 := h.1
  rw [wcells, List.drop_append, List.length_map, h1, List.drop_of_length_le (by rw [List.length_map, h1]; decide)]
  rfl
theorem wcells_k (h : WK.ok ⟨s, r, k, c⟩) : ((wcells s r k c).drop 17).take 32 = k.map U8 := by
  have h2 : k.length = 32 := h.2.1
  rw [wcells_k' h, List.take_append_of_le_length (by rw [List.length_map, h2]; exact Nat.le_refl _), List.take_of_length_le (by rw [List.length_map, h2]; exact Nat.le_refl _)]
theorem wcells_c (h : WK.ok ⟨s, r, k, c⟩) : ((wcells s r k c).drop 49).take 32 = c.map U8 := by
  have h2 : k.length = 32 := h.2.1
  have h3 : c.length = 32 := h.2.2
  rw [show 49 = 17 + 32 from rfl, ← List.drop_drop, wcells_k' h, List.drop_append_of_le_length (by rw [List.length_map, h2]; exact Nat.le_refl _), List.drop_of_length_le (by rw [List.length_map, h2]; exact Nat.le_refl _), List.nil_append, List.take_of_length_le (by rw [List.length_map, h3]; exact Nat.le_refl _)]
theorem ovr_mid (a b z : List Value) (vs : List Value) (o : Nat) (ha : a.length = o) (hb : b.length = vs.length) (hn : 2 ≤ vs.length) (h0 : 0 < o) : ovr (a ++ (b ++ z)) o vs = a ++ (vs ++ z) := by
  have e1 : (a ++ (b ++ z)).take o = a := by rw [← ha, List.take_left']; rfl
  have e2 : (a ++ (b ++ z)).drop (o + vs.length) = z := by
    rw [← List.drop_drop, ← ha, List.drop_left', ← hb, List.drop_left']; rfl; rfl
  unfold ovr
  split
  · simp at hn
  · rw [if_neg (by omega), e1, e2, List.append_assoc]
theorem wcells_setc (h : WK.ok ⟨s, r, k, c⟩) (c' : List UInt8) (hc : c'.length = 32) : ovr (wcells s r k c) 49 (c'.map U8) = wcells s r k c' := by
  obtain ⟨h1, h2, h3⟩ := h
  simp only [] at h1 h2 h3
  have := ovr_mid (s.map U8 ++ ([.int .i64 r] ++ k.map U8)) (c.map U8) [] (c'.map U8) 49 (by simp [h1, h2]) (by simp [h3, hc]) (by simp [hc]) (by decide)
  simp only [wcells, List.append_nil, List.append_assoc] at this ⊢
  exact this
end
/-- A wrapped key of zeros. -/
def WK.zero : WK := ⟨zb 16, 0, zb 32, zb 32⟩
theorem WK.zero_ok : WK.zero.ok := ⟨zb_length _, zb_length _, zb_length _⟩
theorem zb_length' (n : Nat) : (zb n).length = n := List.length_replicate
theorem three_parts {H : AH} {v w u : Value} {a b c : List UInt8} (h : SL H v (a.map U8)) (k : SL H w (b.map U8)) (l : SL H u (c.map U8)) : Parts (H ++ [.own [v, w, u]]) (.slice (some ⟨H.length, 0, none⟩) 3 1) [(v, a), (w, b), (u, c)] := by
  refine ⟨(OS.new (b := 0) (vs := [v, w, u]) (Nat.zero_le _) rfl).sl, fun p hp => ?_⟩
  simp only [List.mem_cons, List.not_mem_nil, or_false] at hp
  rcases hp with rfl | rfl | rfl
  · exact h.mono (Ext.push _ _)
  · exact k.mono (Ext.push _ _)
  · exact l.mono (Ext.push _ _)
theorem allB_three (v w u : Value) (a b c : List UInt8) : allB [(v, a), (w, b), (u, c)] = a ++ (b ++ c) := by simp [allB]
/-- The mac of a wrapped key. -/
def checkB (s : List UInt8) (r : Int) (k b : List UInt8) : List UInt8 := macB b (s ++ (numB (w64 r) 4 ++ k))
set_option maxHeartbeats 4000000 in
theorem wcheck_calls (s : List UInt8) (r : Int) (k c b : List UInt8) (H : AH) (hw : WK.ok ⟨s, r, k, c⟩) (hb : b.length = 32) :
    ACalls Try.prog 39 #[.agg (wcells s r k c).toArray, .agg (b.map U8).toArray] H fun v H' => v = .agg ((checkB s r k b).map U8).toArray ∧ Ext H H' := by
  have hwl := wcells_length hw
  have hpr := wcells_r hw
  have hw64 := wint64 r
  have hF : Has (H ++ [ABlk.own (wcells s r k c)] ++ [ABlk.own (b.map U8)] ++ [ABlk.own ((zb 32).map U8)]) [(H.length, wcells s r k c), (H.length + 1, b.map U8), (H.length + 2, (zb 32).map U8)] := Has.cons (by simp -implicitDefEqProofs (disch := (try simp only [sl]); try omega) only [sm,Qj,Qi,Qq,QC,bd,look,aput,ty,↓reduceIte,Nat.reduceEqDiff,Nat.reduceAdd,Nat.reduceSub,Nat.reduceMul,Int.reduceLT,Int.reduceLE,Int.reduceNeg,Int.reduceToNat,reduceCtorEq,Nat.reduceBEq,Nat.reduceBNe,Qk,Qe,Value.cells,am,mm,keep]) (Has.cons (by simp -implicitDefEqProofs (disch := (try simp only [sl]); try omega) only [sm,Qj,Qi,Qq,QC,bd,look,aput,ty,↓reduceIte,Nat.reduceEqDiff,Nat.reduceAdd,Nat.reduceSub,Nat.reduceMul,Int.reduceLT,Int.reduceLE,Int.reduceNeg,Int.reduceToNat,reduceCtorEq,Nat.reduceBEq,Nat.reduceBNe,Qk,Qe,Value.cells,am,mm,keep]) (Has.cons (by simp -implicitDefEqProofs (disch := (try simp only [sl]); try omega) only [sm,Qj,Qi,Qq,QC,bd,look,aput,ty,↓reduceIte,Nat.reduceEqDiff,Nat.reduceAdd,Nat.reduceSub,Nat.reduceMul,Int.reduceLT,Int.reduceLE,Int.reduceNeg,Int.reduceToNat,reduceCtorEq,Nat.reduceBEq,Nat.reduceBNe,Qk,Qe,Value.cells,am,mm,keep]) (Has.nil _)))
  have e0 : Ext H (H ++ [ABlk.own (wcells s r k c)] ++ [ABlk.own (b.map U8)] ++ [ABlk.own ((zb 32).map U8)]) := (by repeat first | assumption | exact Ext.refl _ | exact Ext.pre (by assumption) | exact Ext.pre (Ext.pre (by assumption)) | exact Ext.pre (Ext.pre (Ext.pre (by assumption))) | exact Ext.pre (Ext.pre (Ext.pre (Ext.pre (by assumption)))) | apply Ext.pushed | refine Ext.both ?_ _ _ | refine Ext.set ?_ _ (by omega))
  refine acalls_of_body Try.func39 rfl Try.ntmps39 (by simp) ?_
  simp only [argsT, Nat.reduceAdd]
  iterate 1 ((repeat first | refine Qo ?_ | refine Qn ?_); (first | (refine QK (by kernel_rfl) ?_; intro K_ hK_; simp -implicitDefEqProofs (disch := (try simp only [sl]); try omega) only [sm,QJ,Qj,Qi,Qq,QC,bd,look,aput,ty,↓reduceIte,Nat.reduceEqDiff,Nat.reduceAdd,Nat.reduceSub,Nat.reduceMul,Int.reduceLT,Int.reduceLE,Int.reduceNeg,Int.reduceToNat,reduceCtorEq,Nat.reduceBEq,Nat.reduceBNe,Qk,Qe,Value.cells,am,mm,keep, hb, hwl, QO, hpr, hw64]; refine hK_ _ _ ?_; clear hK_ K_; repeat first | refine QL ?_ | refine QM ?_)))
  generalize H ++ [ABlk.own (wcells s r k c)] ++ [ABlk.own (b.map U8)] ++ [ABlk.own ((zb 32).map U8)] = H0 at *
  have f0 := hF
  simp only [Has] at f0
  (repeat first | refine Qo ?_ | refine Qn ?_); refine awp_region_drawK (id := 1) [(0, []), (1, []), (2, []), (3, []), (4, []), (5, []), (7, []), (8, []), (6, []), (9, []), (10, []), (11, [])] mixed (by kernel_rfl) ?_; intro K_ hK_; simp -implicitDefEqProofs (disch := (try simp only [sl]); try omega) only [sm,aSel,Qu,Qv,Qw,Qx,Qy,Qj,Qi,Qq,QC,Qz,bd,QF,look,aput,Qm,QH,Qg,Qc,QA,Qr,loN,hiN,ty,↓reduceIte,Nat.reduceEqDiff,Nat.reduceAdd,Nat.reduceSub,Nat.reduceMul,Int.reduceLT,Int.reduceLE,Int.reduceNeg,Int.reduceToNat,reduceCtorEq,Nat.reduceBEq,Nat.reduceBNe,Qk,Qe,Value.cells,am,mm,keep, hb, hwl, QO, hpr, hw64, f0]
  refine ACalls.mono (num_calls _ [] (w64 r) 4 H0 (.inl ⟨rfl, rfl⟩) (Nat.zero_le _) (by decide) (by decide)) ?_
  rintro u H1 ⟨o1, e1⟩
  rw [List.nil_append, show sizedN 4 = 4 from rfl] at o1
  have hF1 := hF.mono e1
  have f1 := hF1
  simp only [Has] at f1
  obtain ⟨pu, nu, eu, rfl⟩ := o1.sl.isSlice
  try simp -implicitDefEqProofs (disch := (try simp only [sl]); try omega) only [sm,aSel,Qu,Qv,Qw,Qx,Qy,Qj,Qi,Qq,QC,Qz,bd,QF,look,aput,Qm,QH,Qg,Qc,QA,Qr,loN,hiN,ty,↓reduceIte,Nat.reduceEqDiff,Nat.reduceAdd,Nat.reduceSub,Nat.reduceMul,Int.reduceLT,Int.reduceLE,Int.reduceNeg,Int.reduceToNat,reduceCtorEq,Nat.reduceBEq,Nat.reduceBNe,Qk,Qe,Value.cells,am,mm,keep, hb, hwl, QO, hpr, hw64, f1]
  try (refine hK_ _ _ ?_; clear hK_ K_; repeat first | refine QL ?_ | refine QM ?_)
  have hT1 : SL H1 (.slice (some ⟨H.length, 0, none⟩) 16 0) (s.map U8) := SL.within 0 16 0 f1.1.2.2 (wcells_s' hw) (by rw [hwl]; decide)
  have hT2 : SL H1 (.slice (some ⟨H.length, 17, none⟩) 32 0) (k.map U8) := SL.within 17 32 0 f1.1.2.2 (wcells_k hw) (by rw [hwl]; decide)
  have hT3 : SL H1 (.slice (some ⟨H.length + 1, 0, none⟩) 32 0) (b.map U8) := SL.own 32 (by rw [List.length_map, hb]) f1.2.1.2.1
  have hl : (s ++ (numB (w64 r) 4 ++ k)).length ≤ 1099511620000 := by
    have h1 : s.length = 16 := hw.1
    have h2 : k.length = 32 := hw.2.1
    rw [List.length_append, List.length_append, numB_length, h1, h2]; decide
  refine ACalls.mono (macsum_calls _ _ b _ _ (hT3.mono (Ext.push _ _)) (by rw [hb]; decide) (three_parts hT1 o1.sl hT2) (by show 3 ≤ _; decide) (by rw [allB_three]; exact hl)) ?_
  rintro _ H2 ⟨rfl, e2⟩
  rw [allB_three]
  have hml := macB_length b (s ++ (numB (w64 r) 4 ++ k))
  have hck : macB b (s ++ (numB (w64 r) 4 ++ k)) = checkB s r k b := rfl
  rw [hck] at hml ⊢
  have e12 := (e0.trans e1).trans ((Ext.push H1 [ABlk.own [.slice (some ⟨H.length, 0, none⟩) 16 0, .slice pu nu eu, .slice (some ⟨H.length, 17, none⟩) 32 0]]).trans e2)
  have f2 := hF1.mono ((Ext.push H1 [ABlk.own [.slice (some ⟨H.length, 0, none⟩) 16 0, .slice pu nu eu, .slice (some ⟨H.length, 17, none⟩) 32 0]]).trans e2)
  simp only [Has] at f2
  have hov : ovr ((zb 32).map U8) 0 ((checkB s r k b).map U8) = (checkB s r k b).map U8 := ovr_all _ _ (by rw [List.length_map, List.length_map, hml, zb_length])
  try simp -implicitDefEqProofs (disch := (try simp only [sl]); try omega) only [sm,aSel,Qu,Qv,Qw,Qx,Qy,Qj,Qi,Qq,QC,Qz,bd,QF,look,aput,Qm,QH,Qg,Qc,QA,Qr,loN,hiN,ty,↓reduceIte,Nat.reduceEqDiff,Nat.reduceAdd,Nat.reduceSub,Nat.reduceMul,Int.reduceLT,Int.reduceLE,Int.reduceNeg,Int.reduceToNat,reduceCtorEq,Nat.reduceBEq,Nat.reduceBNe,Qk,Qe,Value.cells,am,mm,keep, hb, hwl, QO, hpr, hw64, f2, hml, zb_length, hov]
  try (refine hK_ _ _ ?_; clear hK_ K_; repeat first | refine QL ?_ | refine QM ?_)
  first | refine awp_ret ?_ | skip
  show ∃ v, aresults Try.prog Try.f39 _ _ = some v ∧ _
  rw [aresults_1 (r := .cell 4 35) (by kernel_rfl)]
  simp -implicitDefEqProofs (disch := (try simp only [sl]); try omega) only [aresult, Option.some.injEq, exists_eq_left', sm,Qj,Qi,Qq,QC,Qz,bd,QF,look,aput,QB,Qf,QA,ty,↓reduceIte,Nat.reduceEqDiff,Nat.reduceAdd,Nat.reduceSub,Nat.reduceMul,Int.reduceLT,Int.reduceLE,Int.reduceNeg,Int.reduceToNat,reduceCtorEq,Nat.reduceBEq,Nat.reduceBNe,Qk,Qe,Value.cells,am,mm,keep, hb, hwl, QO, hpr, hw64]
  exact e12.set _ (by omega)
end Go.Proofs.Ytelpdppdhimfoaa
