/- sha: the sum of parts. -/
import Derived.Test.YtelpdppdhimfoaaSh4
namespace Go.Proofs.Ytelpdppdhimfoaa
open Go Go.RowKit
set_option linter.unusedSimpArgs false
set_option linter.unusedVariables false
set_option maxRecDepth 4000
/-- Rows of bytes in a row. -/
def Parts (H : AH) (v : Value) (ps : List (Value × List UInt8)) : Prop := SL H v (ps.map (·.1)) ∧ ∀ p ∈ ps, SL H p.1 (p.2.map U8)
theorem Parts.mono {H H' : AH} {v : Value} {ps : List (Value × List UInt8)} (h : Parts H v ps) (e : Ext H H') : Parts H' v ps := ⟨h.1.mono e, fun p hp => (h.2 p hp).mono e⟩
theorem Parts.get {H : AH} {v : Value} {ps : List (Value × List UInt8)} (h : Parts H v ps) (i : Nat) (hi : i < ps.length) :
    ∃ g o e cs w b, v = .slice (some ⟨g, o, none⟩) ps.length e ∧ H.cells g = some cs ∧ cs[o + i]? = some w ∧ SL H w (b.map U8) ∧ ((ps.map (·.2)).take (i + 1)).flatten = ((ps.map (·.2)).take i).flatten ++ b := by
  obtain ⟨g, o, e, cs, h1, h2, -, -, h5, -⟩ := h.1.at (by rw [List.length_map]; omega)
  rw [List.length_map] at h1 h5
  refine ⟨g, o, e, cs, ps[i].1, ps[i].2, h1, h2, ?_, h.2 _ (List.getElem_mem hi), ?_⟩
  · rw [h5 i hi, List.getElem?_map, List.getElem?_eq_getElem hi]; rfl
  · rw [List.take_add_one, List.getElem?_map, List.getElem?_eq_getElem hi, List.flatten_append]; simp
def allB (ps : List (Value × List UInt8)) : List UInt8 := (ps.map (·.2)).flatten
theorem flatten_take_le (l : List (List UInt8)) (i : Nat) : ((l.take i).flatten).length ≤ l.flatten.length := by
  conv => rhs; rw [← List.take_append_drop i l, List.flatten_append, List.length_append]
  omega
set_option maxHeartbeats 4000000 in
theorem sumf_calls (v : Value) (ps : List (Value × List UInt8)) (H : AH) (hv : Parts H v ps) (hn : ps.length ≤ 1099511627776) (hl : (allB ps).length ≤ 1099511627000) :
    ACalls Try.prog 49 #[v] H fun r H' => r = .agg ((digest (allB ps)).map U8).toArray ∧ Ext H H' := by
  have lv := alen_sl (P := Try.prog) (T := 75) (by simp only [ty]) hv.1
  rw [List.length_map] at lv
  refine acalls_of_body Try.func49 rfl Try.ntmps49 (by simp) ?_
  simp only [argsT, Nat.reduceAdd]
  -- R0 R1
  iterate 2 ((repeat first | refine awp_seq ?_ | refine awp_block ?_); (first | refine awp_region (by kernel_rfl) ?_); simp -implicitDefEqProofs (disch := (try simp only [sl]); try omega) only [sm, aNext, aSel, aNextL, aNextH, heldC, heldO, heldP, aWanted, isLight, aLight, apure, aread, bd, aload, look, aput, aHeavy, amark, aThen, aInBlock, aconvInt, abinO, abin, anil, aunop, aindexAddr, afieldAddr, afield, apart, aindex, aslice, loN, hiN, aextract, amakeIface, anilCheck, aminmax, amin2, amax2, ty, ↓reduceIte, Nat.reduceEqDiff, Nat.reduceAdd, Nat.reduceSub, Nat.reduceMul, Int.reduceLT, Int.reduceLE, Int.reduceNeg, Int.reduceToNat, reduceCtorEq, Nat.reduceBEq, Nat.reduceBNe, skipped, definite, Value.cells, am, mm, keep])
  -- calls sha.New
  generalize hH1 : H ++ [ABlk.own (List.replicate 32 (Value.int .u8 0))] = H1
  have x1 : Ext H H1 := by rw [← hH1]; exact (by repeat first | assumption | exact Ext.refl _ | exact Ext.pre (by assumption) | exact Ext.pre (Ext.pre (by assumption)) | exact Ext.pre (Ext.pre (Ext.pre (by assumption))) | exact Ext.pre (Ext.pre (Ext.pre (Ext.pre (by assumption)))) | apply Ext.pushed | refine Ext.both ?_ _ _ | refine Ext.set ?_ _ (by omega))
  have a1 : H1[H.length]? = some (.own (List.replicate 32 (Value.int .u8 0))) := by rw [← hH1]; exact (by simp -implicitDefEqProofs (disch := (try simp only [sl]); try omega) only [sm, aNext, aSel, aNextL, aNextH, heldC, heldO, heldP, aWanted, isLight, aLight, apure, aread, bd, aload, look, aput, aHeavy, amark, aThen, aInBlock, aconvInt, abinO, abin, anil, aunop, aindexAddr, afieldAddr, afield, apart, aindex, aslice, loN, hiN, aextract, amakeIface, anilCheck, aminmax, amin2, amax2, ty, ↓reduceIte, Nat.reduceEqDiff, Nat.reduceAdd, Nat.reduceSub, Nat.reduceMul, Int.reduceLT, Int.reduceLE, Int.reduceNeg, Int.reduceToNat, reduceCtorEq, Nat.reduceBEq, Nat.reduceBNe, skipped, definite, Value.cells, am, mm, keep])
  clear hH1
  refine ACalls.mono (new_calls H1) ?_
  rintro w0 H2 ⟨hst, e2⟩
  have hst := hst (H2.length + 1)
  obtain ⟨X, rfl, hX, hXc⟩ := hst.cells
  try simp -implicitDefEqProofs (disch := (try simp only [sl]); try omega) only [sm, aNext, aSel, aNextL, aNextH, heldC, heldO, heldP, aWanted, isLight, aLight, apure, aread, bd, aload, look, aput, aHeavy, amark, aThen, aInBlock, aconvInt, abinO, abin, anil, aunop, aindexAddr, afieldAddr, afield, apart, aindex, aslice, loN, hiN, aextract, amakeIface, anilCheck, aminmax, amin2, amax2, ty, ↓reduceIte, Nat.reduceEqDiff, Nat.reduceAdd, Nat.reduceSub, Nat.reduceMul, Int.reduceLT, Int.reduceLE, Int.reduceNeg, Int.reduceToNat, reduceCtorEq, Nat.reduceBEq, Nat.reduceBNe, skipped, definite, Value.cells, am, mm, keep, hXc]
  -- R2
  iterate 1 ((repeat first | refine awp_seq ?_ | refine awp_block ?_); (first | refine awp_region (by kernel_rfl) ?_); simp -implicitDefEqProofs (disch := (try simp only [sl]); try omega) only [sm, aNext, aSel, aNextL, aNextH, heldC, heldO, heldP, aWanted, isLight, aLight, apure, aread, bd, aload, look, aput, aHeavy, amark, aThen, aInBlock, aconvInt, abinO, abin, anil, aunop, aindexAddr, afieldAddr, afield, apart, aindex, aslice, loN, hiN, aextract, amakeIface, anilCheck, aminmax, amin2, amax2, ty, ↓reduceIte, Nat.reduceEqDiff, Nat.reduceAdd, Nat.reduceSub, Nat.reduceMul, Int.reduceLT, Int.reduceLE, Int.reduceNeg, Int.reduceToNat, reduceCtorEq, Nat.reduceBEq, Nat.reduceBNe, skipped, definite, Value.cells, am, mm, keep, lv])
  have a2 := e2 _ _ a1
  have x2 := x1.trans e2
  have g2 := got_lt a2
  have x3 : Ext H (H2 ++ [ABlk.own X]) := x2.pushed _
  have a3 : (H2 ++ [ABlk.own X])[H.length]? = some (.own (List.replicate 32 (Value.int .u8 0))) := Ext.push _ _ _ _ a2
  have p3 : (H2 ++ [ABlk.own X])[H2.length]? = some (.own X) := gpush _ _
  have s3 : St (H2.length + 1) (H2 ++ [ABlk.own X]) (.agg X.toArray) ((ps.map (·.2)).take 0).flatten := hst.mono (Ext.push _ _)
  have hv3 := hv.mono x2
  have f3 : Keeps H2.length H2 (H2 ++ [ABlk.own X]) := (Keeps.refl _ _).push (Nat.le_refl _) _
  generalize H2 ++ [ABlk.own X] = H3 at *
  generalize hp : H2.length = p at *
  repeat first | refine awp_seq ?_ | refine awp_block ?_
  refine awp_forK [2, 3, 7, 8] (fun i : Nat × AH × List Value => [(9, I64 i.1)]) (fun i : Nat × AH × List Value => i.2.1) (fun i : Nat × AH × List Value => i.1 ≤ ps.length ∧ Keeps p H2 i.2.1 ∧ i.2.1[p]? = some (.own i.2.2) ∧ St (p + 1) i.2.1 (.agg i.2.2.toArray) ((ps.map (·.2)).take i.1).flatten) (fun i : Nat × AH × List Value => ps.length - i.1) ((0, H3, X)) (⟨by omega, f3, p3, s3⟩) (by repeat first | exact Forgets.nil | refine Forgets.cons (by first | (simp only [look, ↓reduceIte, Nat.reduceEqDiff]; done) | (simp only [look, ↓reduceIte, Nat.reduceEqDiff]; rfl) | simp [look]) ?_) rfl ?_
  rintro ⟨i, H4, Y⟩ ⟨hi, f4, p4, s4⟩
  simp only [] at hi f4 p4 s4 ⊢
  obtain ⟨Y', hY', hY, hYc⟩ := s4.cells
  obtain rfl : Y = Y' := by injection hY' with h; simpa using congrArg Array.toList h
  clear hY'
  have l4 := got_lt p4
  have b4 := AH.cells_own p4
  try simp -implicitDefEqProofs (disch := (try simp only [sl]); try omega) only [sm, aNext, aSel, aNextL, aNextH, heldC, heldO, heldP, aWanted, isLight, aLight, apure, aread, bd, aload, look, aput, aHeavy, amark, aThen, aInBlock, aconvInt, abinO, abin, anil, aunop, aindexAddr, afieldAddr, afield, apart, aindex, aslice, loN, hiN, aextract, amakeIface, anilCheck, aminmax, amin2, amax2, ty, ↓reduceIte, Nat.reduceEqDiff, Nat.reduceAdd, Nat.reduceSub, Nat.reduceMul, Int.reduceLT, Int.reduceLE, Int.reduceNeg, Int.reduceToNat, reduceCtorEq, Nat.reduceBEq, Nat.reduceBNe, skipped, definite, Value.cells, am, mm, keep]
  -- R3
  iterate 1 ((repeat first | refine awp_seq ?_ | refine awp_block ?_); (first | refine awp_region (by kernel_rfl) ?_); simp -implicitDefEqProofs (disch := (try simp only [sl]); try omega) only [sm, aNext, aSel, aNextL, aNextH, heldC, heldO, heldP, aWanted, isLight, aLight, apure, aread, bd, aload, look, aput, aHeavy, amark, aThen, aInBlock, aconvInt, abinO, abin, anil, aunop, aindexAddr, afieldAddr, afield, apart, aindex, aslice, loN, hiN, aextract, amakeIface, anilCheck, aminmax, amin2, amax2, ty, ↓reduceIte, Nat.reduceEqDiff, Nat.reduceAdd, Nat.reduceSub, Nat.reduceMul, Int.reduceLT, Int.reduceLE, Int.reduceNeg, Int.reduceToNat, reduceCtorEq, Nat.reduceBEq, Nat.reduceBNe, skipped, definite, Value.cells, am, mm, keep])
  repeat first | refine awp_seq ?_ | refine awp_block ?_
  refine awp_if _ rfl (by simp only [aeval_tmp, look, ↓reduceIte, Nat.reduceEqDiff]; exact rfl) ?_ ?_
  · intro hlt
    try simp only [ge_iff_le, gt_iff_lt, decide_eq_true_eq, decide_eq_false_iff_not, Nat.not_lt, Int.not_lt, Nat.not_le, Int.not_le, Bool.and_eq_true, Bool.or_eq_true, Bool.or_eq_false_iff, bne_iff_ne, ne_eq, beq_iff_eq, bne_eq_false_iff_eq, beq_eq_false_iff_ne, Bool.not_eq_true, Bool.not_eq_false, Bool.not_eq_eq_eq_not, Bool.not_true, Bool.not_false, Nat.not_le, Int.ofNat_lt, Int.ofNat_le, Int.natCast_inj] at hlt
    have hx4 : Ext H2 H4 := f4.ext (by omega) (Ext.refl _)
    obtain ⟨g, o, e, cs, w, b, rfl, hc, hw, hb, hft⟩ := (hv3.mono hx4).get i (by omega)
    -- skip R4 R5
    iterate 3 ((repeat first | refine awp_seq ?_ | refine awp_block ?_); (first | refine awp_skip ?_ | refine awp_region (by kernel_rfl) ?_); simp -implicitDefEqProofs (disch := (try simp only [sl]); try omega) only [sm, aNext, aSel, aNextL, aNextH, heldC, heldO, heldP, aWanted, isLight, aLight, apure, aread, bd, aload, look, aput, aHeavy, amark, aThen, aInBlock, aconvInt, abinO, abin, anil, aunop, aindexAddr, afieldAddr, afield, apart, aindex, aslice, loN, hiN, aextract, amakeIface, anilCheck, aminmax, amin2, amax2, ty, ↓reduceIte, Nat.reduceEqDiff, Nat.reduceAdd, Nat.reduceSub, Nat.reduceMul, Int.reduceLT, Int.reduceLE, Int.reduceNeg, Int.reduceToNat, reduceCtorEq, Nat.reduceBEq, Nat.reduceBNe, skipped, definite, Value.cells, am, mm, keep, hc, hw, b4, hY, hYc])
    -- calls (sha.State).Write
    have hle := flatten_take_le (ps.map (·.2)) (i + 1)
    rw [hft, List.length_append] at hle
    refine ACalls.mono (write_calls (.agg Y.toArray) w ((ps.map (·.2)).take i).flatten b H4 s4 hb (by unfold allB at hl; omega)) ?_
    rintro w5 H5 ⟨s5, e5⟩
    rw [← hft] at s5
    obtain ⟨Z, rfl, hZ, hZc⟩ := s5.cells
    have p5 := e5 _ _ p4
    have l5 := got_lt p5
    try simp -implicitDefEqProofs (disch := (try simp only [sl]); try omega) only [sm, aNext, aSel, aNextL, aNextH, heldC, heldO, heldP, aWanted, isLight, aLight, apure, aread, bd, aload, look, aput, aHeavy, amark, aThen, aInBlock, aconvInt, abinO, abin, anil, aunop, aindexAddr, afieldAddr, afield, apart, aindex, aslice, loN, hiN, aextract, amakeIface, anilCheck, aminmax, amin2, amax2, ty, ↓reduceIte, Nat.reduceEqDiff, Nat.reduceAdd, Nat.reduceSub, Nat.reduceMul, Int.reduceLT, Int.reduceLE, Int.reduceNeg, Int.reduceToNat, reduceCtorEq, Nat.reduceBEq, Nat.reduceBNe, skipped, definite, Value.cells, am, mm, keep, hZc, p5, hY, hZ]
    -- R6
    iterate 1 ((repeat first | refine awp_seq ?_ | refine awp_block ?_); (first | refine awp_region (by kernel_rfl) ?_); simp -implicitDefEqProofs (disch := (try simp only [sl]); try omega) only [sm, aNext, aSel, aNextL, aNextH, heldC, heldO, heldP, aWanted, isLight, aLight, apure, aread, bd, aload, look, aput, aHeavy, amark, aThen, aInBlock, aconvInt, abinO, abin, anil, aunop, aindexAddr, afieldAddr, afield, apart, aindex, aslice, loN, hiN, aextract, amakeIface, anilCheck, aminmax, amin2, amax2, ty, ↓reduceIte, Nat.reduceEqDiff, Nat.reduceAdd, Nat.reduceSub, Nat.reduceMul, Int.reduceLT, Int.reduceLE, Int.reduceNeg, Int.reduceToNat, reduceCtorEq, Nat.reduceBEq, Nat.reduceBNe, skipped, definite, Value.cells, am, mm, keep])
    -- loop end
    refine ⟨(i + 1, H5.set p (.own Z), Z), ⟨by simp only []; omega, (f4.trans (Keeps.of_ext e5 (by omega))).set (Nat.le_refl _) _, gset H5 _ _ l5, (s5.low (by omega)).set (by omega) _⟩, (by repeat first | exact Forgets.nil | refine Forgets.cons (by first | (simp only [look, ↓reduceIte, Nat.reduceEqDiff]; done) | (simp only [look, ↓reduceIte, Nat.reduceEqDiff]; rfl) | simp [look]) ?_), ?_⟩
    first | omega | exact ⟨rfl, by omega⟩ | exact ⟨rfl, by simp only []; omega⟩ | (simp only []; omega)
  intro hge
  try simp only [ge_iff_le, gt_iff_lt, decide_eq_true_eq, decide_eq_false_iff_not, Nat.not_lt, Int.not_lt, Nat.not_le, Int.not_le, Bool.and_eq_true, Bool.or_eq_true, Bool.or_eq_false_iff, bne_iff_ne, ne_eq, beq_iff_eq, bne_eq_false_iff_eq, beq_eq_false_iff_ne, Bool.not_eq_true, Bool.not_eq_false, Bool.not_eq_eq_eq_not, Bool.not_true, Bool.not_false, Nat.not_le, Int.ofNat_lt, Int.ofNat_le, Int.natCast_inj] at hge
  obtain rfl : i = ps.length := by omega
  rw [List.take_of_length_le (by rw [List.length_map]; omega)] at s4
  have hx4 : Ext H2 H4 := f4.ext (by omega) (Ext.refl _)
  have a4 := hx4 _ _ a2
  -- exit R7
  iterate 2 ((repeat first | refine awp_seq ?_ | refine awp_block ?_); (first | refine awp_exit ?_ | refine awp_region (by kernel_rfl) ?_); simp -implicitDefEqProofs (disch := (try simp only [sl]); try omega) only [sm, aNext, aSel, aNextL, aNextH, heldC, heldO, heldP, aWanted, isLight, aLight, apure, aread, bd, aload, look, aput, aHeavy, amark, aThen, aInBlock, aconvInt, abinO, abin, anil, aunop, aindexAddr, afieldAddr, afield, apart, aindex, aslice, loN, hiN, aextract, amakeIface, anilCheck, aminmax, amin2, amax2, ty, ↓reduceIte, Nat.reduceEqDiff, Nat.reduceAdd, Nat.reduceSub, Nat.reduceMul, Int.reduceLT, Int.reduceLE, Int.reduceNeg, Int.reduceToNat, reduceCtorEq, Nat.reduceBEq, Nat.reduceBNe, skipped, definite, Value.cells, am, mm, keep, b4, hY, hYc])
  -- calls (sha.State).Sum
  refine ACalls.mono (sum_calls (.agg Y.toArray) (ps.map (·.2)).flatten H4 s4 (by unfold allB at hl; omega)) ?_
  rintro _ H5 ⟨rfl, e5⟩
  have a5 := e5 _ _ a4
  have hdl := digest_length (ps.map (·.2)).flatten
  have hx5 := (x2.trans hx4).trans e5
  have g5 := got_lt a5
  rw [allB]
  generalize digest (ps.map (·.2)).flatten = dd at *
  try simp -implicitDefEqProofs (disch := (try simp only [sl]); try omega) only [sm, aNext, aSel, aNextL, aNextH, heldC, heldO, heldP, aWanted, isLight, aLight, apure, aread, bd, aload, look, aput, aHeavy, amark, aThen, aInBlock, aconvInt, abinO, abin, anil, aunop, aindexAddr, afieldAddr, afield, apart, aindex, aslice, loN, hiN, aextract, amakeIface, anilCheck, aminmax, amin2, amax2, ty, ↓reduceIte, Nat.reduceEqDiff, Nat.reduceAdd, Nat.reduceSub, Nat.reduceMul, Int.reduceLT, Int.reduceLE, Int.reduceNeg, Int.reduceToNat, reduceCtorEq, Nat.reduceBEq, Nat.reduceBNe, skipped, definite, Value.cells, am, mm, keep, a5, hdl]
  -- auto: nothing
  first | refine awp_ret ?_ | skip
  show ∃ v, aresults Try.prog Try.f49 _ _ = some v ∧ _
  rw [aresults_1 (r := .cell 2 35) (by kernel_rfl)]
  simp -implicitDefEqProofs (disch := (try simp only [sl]); try omega) only [aresult, Option.some.injEq, exists_eq_left', sm, aNext, aSel, aNextL, aNextH, heldC, heldO, heldP, aWanted, isLight, aLight, apure, aread, bd, aload, look, aput, aHeavy, amark, aThen, aInBlock, aconvInt, abinO, abin, anil, aunop, aindexAddr, afieldAddr, afield, apart, aindex, aslice, loN, hiN, aextract, amakeIface, anilCheck, aminmax, amin2, amax2, ty, ↓reduceIte, Nat.reduceEqDiff, Nat.reduceAdd, Nat.reduceSub, Nat.reduceMul, Int.reduceLT, Int.reduceLE, Int.reduceNeg, Int.reduceToNat, reduceCtorEq, Nat.reduceBEq, Nat.reduceBNe, skipped, definite, Value.cells, am, mm, keep]
  exact (by repeat first | assumption | exact Ext.refl _ | exact Ext.pre (by assumption) | exact Ext.pre (Ext.pre (by assumption)) | exact Ext.pre (Ext.pre (Ext.pre (by assumption))) | exact Ext.pre (Ext.pre (Ext.pre (Ext.pre (by assumption)))) | apply Ext.pushed | refine Ext.both ?_ _ _ | refine Ext.set ?_ _ (by omega))
theorem aeqB (T n : Nat) (hT : Try.prog.underlying T = some (.array n 5)) (hc : Try.prog.cellsOf T = n) (hg : Try.prog.eqGuardType Try.prog.depth T = false) (a b : List UInt8) (ha : a.length = n) (hb : b.length = n) : aeqAgg Try.prog T (a.map U8).toArray (b.map U8).toArray = some (decide (a = b)) :=
  aeq_words (n := n) (e := 5) (k := .u8) hT (by kernel_rfl) (by kernel_rfl) hc hg _ wf8 inj8 _ _ ha hb
/-- '==' of two digests. -/
theorem aeq32 (a b : List UInt8) (ha : a.length = 32) (hb : b.length = 32) : aeqAgg Try.prog 35 (a.map U8).toArray (b.map U8).toArray = some (decide (a = b)) := aeqB 35 32 (by kernel_rfl) (by kernel_rfl) (by kernel_rfl) a b ha hb
theorem one_part {H : AH} {v : Value} {bs : List UInt8} (h : SL H v (bs.map U8)) : Parts (H ++ [.own [v]]) (.slice (some ⟨H.length, 0, none⟩) 1 1) [(v, bs)] := by
  refine ⟨(OS.new (b := 0) (vs := [v]) (Nat.zero_le _) rfl).sl, fun p hp => ?_⟩
  simp only [List.mem_cons, List.not_mem_nil, or_false] at hp
  subst hp
  exact h.mono (Ext.push _ _)
theorem allB_one (v : Value) (bs : List UInt8) : allB [(v, bs)] = bs := by simp [allB]
theorem two_parts {H : AH} {v w : Value} {a b : List UInt8} (h : SL H v (a.map U8)) (k : SL H w (b.map U8)) : Parts (H ++ [.own [v, w]]) (.slice (some ⟨H.length, 0, none⟩) 2 1) [(v, a), (w, b)] := by
  refine ⟨(OS.new (b := 0) (vs := [v, w]) (Nat.zero_le _) rfl).sl, fun p hp => ?_⟩
  simp only [List.mem_cons, List.not_mem_nil, or_false] at hp
  rcases hp with rfl | rfl
  · exact h.mono (Ext.push _ _)
  · exact k.mono (Ext.push _ _)
theorem allB_two (v w : Value) (a b : List UInt8) : allB [(v, a), (w, b)] = a ++ b := by simp [allB]
end Go.Proofs.Ytelpdppdhimfoaa
