/- The document's constants: primes, all of them. -/
import Derived.Test.YtelpdppdhimfoaaSr1
namespace Go.Proofs.Ytelpdppdhimfoaa
open Go Go.RowKit
set_option linter.unusedSimpArgs false
set_option linter.unusedVariables false
set_option maxRecDepth 4000
def prN : Nat → List UInt64
  | 0 => []
  | k + 1 => if (prN k).all (fun q => UInt64.ofNat (k + 2) % q != 0) then prN k ++ [UInt64.ofNat (k + 2)] else prN k
theorem prN_prefix (k : Nat) : ∀ j, prN k <+: prN (k + j)
  | 0 => List.prefix_refl _
  | j + 1 => by
    refine (prN_prefix k j).trans ?_
    rw [← Nat.add_assoc, prN]
    split
    · exact List.prefix_append _ _
    · exact List.prefix_refl _
theorem prN_ne : ∀ k, k ≤ 310 → ∀ q ∈ prN k, q ≠ 0
  | 0, _, q, h => by simp [prN] at h
  | k + 1, hk, q, h => by
    rw [prN] at h
    have h2 : (UInt64.ofNat (k + 2)) ≠ 0 := by
      intro e
      have := congrArg UInt64.toNat e
      rw [UInt64.toNat_ofNat'] at this
      have e0 : (0 : UInt64).toNat = 0 := rfl
      omega
    split at h
    · rcases List.mem_append.1 h with h | h
      · exact prN_ne k (by omega) q h
      · rw [List.mem_singleton] at h; rw [h]; exact h2
    · exact prN_ne k (by omega) q h
def primesL : List UInt64 := [2, 3, 5, 7, 11, 13, 17, 19, 23, 29, 31, 37, 41, 43, 47, 53, 59, 61, 67, 71, 73, 79, 83, 89, 97, 101, 103, 107, 109, 113, 127, 131, 137, 139, 149, 151, 157, 163, 167, 173, 179, 181, 191, 193, 197, 199, 211, 223, 227, 229, 233, 239, 241, 251, 257, 263, 269, 271, 277, 281, 283, 293, 307, 311]
theorem primesL_eq : prN 310 = primesL := by decide +kernel
theorem prN_take (k : Nat) (hk : k ≤ 310) : prN k = primesL.take (prN k).length := by
  have h := prN_prefix k (310 - k)
  rw [show k + (310 - k) = 310 by omega, primesL_eq] at h
  exact List.prefix_iff_eq_take.1 h
set_option maxHeartbeats 4000000 in
theorem primes_calls (n : Nat) (H : AH) (hn : n ≤ 64) : ACalls Try.prog 60 #[I64 n] H fun v H' => SL H' v ((primesL.take n).map U64) ∧ Ext H H' := by
  refine acalls_of_body Try.func60 rfl Try.ntmps60 (by simp) ?_
  simp only [argsT, Nat.reduceAdd]
  -- R0 R1 R2
  iterate 3 ((repeat first | refine awp_seq ?_ | refine awp_block ?_); (first | refine awp_region (by kernel_rfl) ?_); simp -implicitDefEqProofs (disch := (try simp only [sl]); try omega) only [sm, aNext, aSel, aNextL, aNextH, heldC, heldO, heldP, aWanted, isLight, aLight, apure, aread, bd, aload, look, aput, aHeavy, amark, aThen, aInBlock, aconvInt, abinO, abin, anil, aunop, aindexAddr, afieldAddr, afield, apart, aindex, aslice, loN, hiN, aextract, amakeIface, anilCheck, aminmax, amin2, amax2, ty, ↓reduceIte, Nat.reduceEqDiff, Nat.reduceAdd, Nat.reduceSub, Nat.reduceMul, Int.reduceLT, Int.reduceLE, Int.reduceNeg, Int.reduceToNat, reduceCtorEq, Nat.reduceBEq, Nat.reduceBNe, skipped, definite, Value.cells, am, mm, keep])
  repeat first | refine awp_seq ?_ | refine awp_block ?_
  refine awp_forK [0] (fun i : Nat × AH × Value => [(4, U64 (UInt64.ofNat (i.1 + 2))), (3, i.2.2)]) (fun i : Nat × AH × Value => i.2.1) (fun i : Nat × AH × Value => i.1 ≤ 310 ∧ (prN i.1).length ≤ n ∧ Keeps H.length H i.2.1 ∧ OS H.length i.2.1 i.2.2 ((prN i.1).map U64)) (fun i : Nat × AH × Value => 310 - i.1) ((0, H, .slice none 0 0)) (⟨by omega, Nat.zero_le _, Keeps.refl _ _, OS.nil _ _⟩) (by repeat first | exact Forgets.nil | refine Forgets.cons (by first | (simp only [look, ↓reduceIte, Nat.reduceEqDiff]; done) | (simp only [look, ↓reduceIte, Nat.reduceEqDiff]; rfl) | simp [look]) ?_) rfl ?_
  rintro ⟨k, H1, s⟩ ⟨hk, hl, k1, o1⟩
  simp only [] at hk hl k1 o1 ⊢
  have ls := alen_sl (P := Try.prog) (T := 97) (by simp only [ty]) o1.sl
  rw [List.length_map] at ls
  have hne := prN_ne k hk
  have hnx : prN (k + 1) = if (prN k).all (fun q => UInt64.ofNat (k + 2) % q != 0) then prN k ++ [UInt64.ofNat (k + 2)] else prN k := rfl
  have h310 : (prN k).length < n → k < 310 := fun h => by
    rcases Nat.lt_or_ge k 310 with h' | h'
    · exact h'
    · obtain rfl : k = 310 := by omega
      rw [primesL_eq] at h; simp [primesL] at h; omega
  have htk := prN_take k hk
  have hpp : UInt64.ofNat (k + 2) + 1 = UInt64.ofNat (k + 1 + 2) := by
    rw [← UInt64.toNat_inj, UInt64.toNat_add, UInt64.toNat_ofNat', UInt64.toNat_ofNat', show (1 : UInt64).toNat = 1 from rfl]; omega
  generalize hL : prN k = l at *
  generalize UInt64.ofNat (k + 2) = p at *
  try simp -implicitDefEqProofs (disch := (try simp only [sl]); try omega) only [sm, aNext, aSel, aNextL, aNextH, heldC, heldO, heldP, aWanted, isLight, aLight, apure, aread, bd, aload, look, aput, aHeavy, amark, aThen, aInBlock, aconvInt, abinO, abin, anil, aunop, aindexAddr, afieldAddr, afield, apart, aindex, aslice, loN, hiN, aextract, amakeIface, anilCheck, aminmax, amin2, amax2, ty, ↓reduceIte, Nat.reduceEqDiff, Nat.reduceAdd, Nat.reduceSub, Nat.reduceMul, Int.reduceLT, Int.reduceLE, Int.reduceNeg, Int.reduceToNat, reduceCtorEq, Nat.reduceBEq, Nat.reduceBNe, skipped, definite, Value.cells, am, mm, keep]
  -- R3
  iterate 1 ((repeat first | refine awp_seq ?_ | refine awp_block ?_); (first | refine awp_region (by kernel_rfl) ?_); simp -implicitDefEqProofs (disch := (try simp only [sl]); try omega) only [sm, aNext, aSel, aNextL, aNextH, heldC, heldO, heldP, aWanted, isLight, aLight, apure, aread, bd, aload, look, aput, aHeavy, amark, aThen, aInBlock, aconvInt, abinO, abin, anil, aunop, aindexAddr, afieldAddr, afield, apart, aindex, aslice, loN, hiN, aextract, amakeIface, anilCheck, aminmax, amin2, amax2, ty, ↓reduceIte, Nat.reduceEqDiff, Nat.reduceAdd, Nat.reduceSub, Nat.reduceMul, Int.reduceLT, Int.reduceLE, Int.reduceNeg, Int.reduceToNat, reduceCtorEq, Nat.reduceBEq, Nat.reduceBNe, skipped, definite, Value.cells, am, mm, keep, ls])
  repeat first | refine awp_seq ?_ | refine awp_block ?_
  refine awp_if _ rfl (by simp only [aeval_tmp, look, ↓reduceIte, Nat.reduceEqDiff]; exact rfl) ?_ ?_
  · intro hlt
    try simp only [ge_iff_le, gt_iff_lt, decide_eq_true_eq, decide_eq_false_iff_not, Nat.not_lt, Int.not_lt, Nat.not_le, Int.not_le, Bool.and_eq_true, Bool.or_eq_true, Bool.or_eq_false_iff, bne_iff_ne, ne_eq, beq_iff_eq, bne_eq_false_iff_eq, beq_eq_false_iff_ne, Bool.not_eq_true, Bool.not_eq_false, Bool.not_eq_eq_eq_not, Bool.not_true, Bool.not_false, Nat.not_le, Int.ofNat_lt, Int.ofNat_le, Int.natCast_inj] at hlt
    have h310 := h310 hlt
    -- skip R5 R6
    iterate 3 ((repeat first | refine awp_seq ?_ | refine awp_block ?_); (first | refine awp_skip ?_ | refine awp_region (by kernel_rfl) ?_); simp -implicitDefEqProofs (disch := (try simp only [sl]); try omega) only [sm, aNext, aSel, aNextL, aNextH, heldC, heldO, heldP, aWanted, isLight, aLight, apure, aread, bd, aload, look, aput, aHeavy, amark, aThen, aInBlock, aconvInt, abinO, abin, anil, aunop, aindexAddr, afieldAddr, afield, apart, aindex, aslice, loN, hiN, aextract, amakeIface, anilCheck, aminmax, amin2, amax2, ty, ↓reduceIte, Nat.reduceEqDiff, Nat.reduceAdd, Nat.reduceSub, Nat.reduceMul, Int.reduceLT, Int.reduceLE, Int.reduceNeg, Int.reduceToNat, reduceCtorEq, Nat.reduceBEq, Nat.reduceBNe, skipped, definite, Value.cells, am, mm, keep])
    repeat first | refine awp_seq ?_ | refine awp_block ?_
    refine awp_forK [0, 3, 4] (fun i : Nat => [(6, I64 i), (5, .bool ((l.take i).all (fun q => p % q != 0)))]) (fun i : Nat => H1) (fun i : Nat => i ≤ l.length) (fun i : Nat => l.length - i) (0) (by omega) (by repeat first | exact Forgets.nil | refine Forgets.cons (by first | (simp only [look, ↓reduceIte, Nat.reduceEqDiff]; done) | (simp only [look, ↓reduceIte, Nat.reduceEqDiff]; rfl) | simp [look]) ?_) rfl ?_
    intro i hi
    try simp -implicitDefEqProofs (disch := (try simp only [sl]); try omega) only [sm, aNext, aSel, aNextL, aNextH, heldC, heldO, heldP, aWanted, isLight, aLight, apure, aread, bd, aload, look, aput, aHeavy, amark, aThen, aInBlock, aconvInt, abinO, abin, anil, aunop, aindexAddr, afieldAddr, afield, apart, aindex, aslice, loN, hiN, aextract, amakeIface, anilCheck, aminmax, amin2, amax2, ty, ↓reduceIte, Nat.reduceEqDiff, Nat.reduceAdd, Nat.reduceSub, Nat.reduceMul, Int.reduceLT, Int.reduceLE, Int.reduceNeg, Int.reduceToNat, reduceCtorEq, Nat.reduceBEq, Nat.reduceBNe, skipped, definite, Value.cells, am, mm, keep]
    -- R7
    iterate 1 ((repeat first | refine awp_seq ?_ | refine awp_block ?_); (first | refine awp_region (by kernel_rfl) ?_); simp -implicitDefEqProofs (disch := (try simp only [sl]); try omega) only [sm, aNext, aSel, aNextL, aNextH, heldC, heldO, heldP, aWanted, isLight, aLight, apure, aread, bd, aload, look, aput, aHeavy, amark, aThen, aInBlock, aconvInt, abinO, abin, anil, aunop, aindexAddr, afieldAddr, afield, apart, aindex, aslice, loN, hiN, aextract, amakeIface, anilCheck, aminmax, amin2, amax2, ty, ↓reduceIte, Nat.reduceEqDiff, Nat.reduceAdd, Nat.reduceSub, Nat.reduceMul, Int.reduceLT, Int.reduceLE, Int.reduceNeg, Int.reduceToNat, reduceCtorEq, Nat.reduceBEq, Nat.reduceBNe, skipped, definite, Value.cells, am, mm, keep, ls])
    repeat first | refine awp_seq ?_ | refine awp_block ?_
    refine awp_if _ rfl (by simp only [aeval_tmp, look, ↓reduceIte, Nat.reduceEqDiff]; exact rfl) ?_ ?_
    · intro hil
      try simp only [ge_iff_le, gt_iff_lt, decide_eq_true_eq, decide_eq_false_iff_not, Nat.not_lt, Int.not_lt, Nat.not_le, Int.not_le, Bool.and_eq_true, Bool.or_eq_true, Bool.or_eq_false_iff, bne_iff_ne, ne_eq, beq_iff_eq, bne_eq_false_iff_eq, beq_eq_false_iff_ne, Bool.not_eq_true, Bool.not_eq_false, Bool.not_eq_eq_eq_not, Bool.not_true, Bool.not_false, Nat.not_le, Int.ofNat_lt, Int.ofNat_le, Int.natCast_inj] at hil
      obtain ⟨g, rfl, hg, -, -⟩ := o1.at (by rw [List.length_map]; omega)
      rw [List.length_map]
      have hc := AH.cells_own hg
      have hge : l.getD i 0 = l[i] := by rw [List.getD_eq_getElem?_getD, List.getElem?_eq_getElem hil]; rfl
      have hrem := arem64 p (l.getD i 0) (by rw [hge]; exact hne _ (List.getElem_mem hil))
      have hts : (l.take (i + 1)).all (fun q => p % q != 0) = ((l.take i).all (fun q => p % q != 0) && (p % l.getD i 0 != 0)) := by
        rw [List.take_add_one, List.getElem?_eq_getElem hil, List.all_append, hge]; simp
      -- (cursor noted)
      cases hb : (l.take i).all (fun q => p % q != 0)
      · rw [hb, Bool.false_and] at hts
        -- skip R9 R8
        iterate 3 ((repeat first | refine awp_seq ?_ | refine awp_block ?_); (first | refine awp_skip ?_ | refine awp_region (by kernel_rfl) ?_); simp -implicitDefEqProofs (disch := (try simp only [sl]); try omega) only [sm, aNext, aSel, aNextL, aNextH, heldC, heldO, heldP, aWanted, isLight, aLight, apure, aread, bd, aload, look, aput, aHeavy, amark, aThen, aInBlock, aconvInt, abinO, abin, anil, aunop, aindexAddr, afieldAddr, afield, apart, aindex, aslice, loN, hiN, aextract, amakeIface, anilCheck, aminmax, amin2, amax2, ty, ↓reduceIte, Nat.reduceEqDiff, Nat.reduceAdd, Nat.reduceSub, Nat.reduceMul, Int.reduceLT, Int.reduceLE, Int.reduceNeg, Int.reduceToNat, reduceCtorEq, Nat.reduceBEq, Nat.reduceBNe, skipped, definite, Value.cells, am, mm, keep])
        -- loop end
        -- fx
        refine ⟨i + 1, by omega, (by repeat first | exact Forgets.nil | refine Forgets.cons (by first | (simp only [look, ↓reduceIte, Nat.reduceEqDiff]; done) | (simp only [look, ↓reduceIte, Nat.reduceEqDiff]; rfl) | simp [look, hts]) ?_), ?_⟩
        first | omega | exact ⟨rfl, by omega⟩ | exact ⟨rfl, by simp only []; omega⟩ | (simp only []; omega)
      · rw [hb, Bool.true_and] at hts
        -- (cursor back)
        -- skip R9 R8
        iterate 3 ((repeat first | refine awp_seq ?_ | refine awp_block ?_); (first | refine awp_skip ?_ | refine awp_region (by kernel_rfl) ?_); simp -implicitDefEqProofs (disch := (try simp only [sl]); try omega) only [sm, aNext, aSel, aNextL, aNextH, heldC, heldO, heldP, aWanted, isLight, aLight, apure, aread, bd, aload, look, aput, aHeavy, amark, aThen, aInBlock, aconvInt, abinO, abin, anil, aunop, aindexAddr, afieldAddr, afield, apart, aindex, aslice, loN, hiN, aextract, amakeIface, anilCheck, aminmax, amin2, amax2, ty, ↓reduceIte, Nat.reduceEqDiff, Nat.reduceAdd, Nat.reduceSub, Nat.reduceMul, Int.reduceLT, Int.reduceLE, Int.reduceNeg, Int.reduceToNat, reduceCtorEq, Nat.reduceBEq, Nat.reduceBNe, skipped, definite, Value.cells, am, mm, keep, hc, hrem])
        -- loop end
        -- fx
        refine ⟨i + 1, by omega, (by repeat first | exact Forgets.nil | refine Forgets.cons (by first | (simp only [look, ↓reduceIte, Nat.reduceEqDiff]; done) | (simp only [look, ↓reduceIte, Nat.reduceEqDiff]; rfl) | simp [look, hts]) ?_), ?_⟩
        first | omega | exact ⟨rfl, by omega⟩ | exact ⟨rfl, by simp only []; omega⟩ | (simp only []; omega)
    intro hil
    try simp only [ge_iff_le, gt_iff_lt, decide_eq_true_eq, decide_eq_false_iff_not, Nat.not_lt, Int.not_lt, Nat.not_le, Int.not_le, Bool.and_eq_true, Bool.or_eq_true, Bool.or_eq_false_iff, bne_iff_ne, ne_eq, beq_iff_eq, bne_eq_false_iff_eq, beq_eq_false_iff_ne, Bool.not_eq_true, Bool.not_eq_false, Bool.not_eq_eq_eq_not, Bool.not_true, Bool.not_false, Nat.not_le, Int.ofNat_lt, Int.ofNat_le, Int.natCast_inj] at hil
    obtain rfl : i = l.length := by omega
    rw [List.take_of_length_le (Nat.le_refl _)]
    -- exit R10
    iterate 2 ((repeat first | refine awp_seq ?_ | refine awp_block ?_); (first | refine awp_exit ?_ | refine awp_region (by kernel_rfl) ?_); simp -implicitDefEqProofs (disch := (try simp only [sl]); try omega) only [sm, aNext, aSel, aNextL, aNextH, heldC, heldO, heldP, aWanted, isLight, aLight, apure, aread, bd, aload, look, aput, aHeavy, amark, aThen, aInBlock, aconvInt, abinO, abin, anil, aunop, aindexAddr, afieldAddr, afield, apart, aindex, aslice, loN, hiN, aextract, amakeIface, anilCheck, aminmax, amin2, amax2, ty, ↓reduceIte, Nat.reduceEqDiff, Nat.reduceAdd, Nat.reduceSub, Nat.reduceMul, Int.reduceLT, Int.reduceLE, Int.reduceNeg, Int.reduceToNat, reduceCtorEq, Nat.reduceBEq, Nat.reduceBNe, skipped, definite, Value.cells, am, mm, keep])
    cases hall : l.all (fun q => p % q != 0)
    · rw [hall] at hnx
      simp only [Bool.false_eq_true, if_false] at hnx
      -- (cursor noted)
      repeat first | refine awp_seq ?_ | refine awp_block ?_
      refine awp_if false rfl (by simp only [aeval_tmp, look, ↓reduceIte, Nat.reduceEqDiff]; try rfl) (fun h => absurd h (by decide)) (fun _ => ?_)
      -- skip R4
      iterate 2 ((repeat first | refine awp_seq ?_ | refine awp_block ?_); (first | refine awp_skip ?_ | refine awp_region (by kernel_rfl) ?_); simp -implicitDefEqProofs (disch := (try simp only [sl]); try omega) only [sm, aNext, aSel, aNextL, aNextH, heldC, heldO, heldP, aWanted, isLight, aLight, apure, aread, bd, aload, look, aput, aHeavy, amark, aThen, aInBlock, aconvInt, abinO, abin, anil, aunop, aindexAddr, afieldAddr, afield, apart, aindex, aslice, loN, hiN, aextract, amakeIface, anilCheck, aminmax, amin2, amax2, ty, ↓reduceIte, Nat.reduceEqDiff, Nat.reduceAdd, Nat.reduceSub, Nat.reduceMul, Int.reduceLT, Int.reduceLE, Int.reduceNeg, Int.reduceToNat, reduceCtorEq, Nat.reduceBEq, Nat.reduceBNe, skipped, definite, Value.cells, am, mm, keep])
      -- loop end
      rw [hpp]
      -- fx
      refine ⟨(k + 1, H1, s), ⟨by simp only []; omega, by simp only []; rw [hnx]; exact hl, k1, by simp only []; rw [hnx]; exact o1⟩, (by repeat first | exact Forgets.nil | refine Forgets.cons (by first | (simp only [look, ↓reduceIte, Nat.reduceEqDiff]; done) | (simp only [look, ↓reduceIte, Nat.reduceEqDiff]; rfl) | simp [look, hnx]) ?_), ?_⟩
      first | omega | exact ⟨rfl, by omega⟩ | exact ⟨rfl, by simp only []; omega⟩ | (simp only []; omega)
    · rw [hall] at hnx
      simp only [if_true] at hnx
      obtain ⟨s4, H4, ha, o4, k4⟩ := OS.app1 (P := Try.prog) (t := 97) (tx := 97) (bytes := 8) (c := U64 p) (by simp only [ty]) (by simp only [ty]) o1 rfl (by rw [List.length_map]; omega) (by decide) k1.1
      -- (cursor back)
      repeat first | refine awp_seq ?_ | refine awp_block ?_
      refine awp_if true rfl (by simp only [aeval_tmp, look, ↓reduceIte, Nat.reduceEqDiff]; try rfl) (fun _ => ?_) (fun h => absurd h (by decide))
      -- R11 R4
      iterate 2 ((repeat first | refine awp_seq ?_ | refine awp_block ?_); (first | refine awp_region (by kernel_rfl) ?_); simp -implicitDefEqProofs (disch := (try simp only [sl]); try omega) only [sm, aNext, aSel, aNextL, aNextH, heldC, heldO, heldP, aWanted, isLight, aLight, apure, aread, bd, aload, look, aput, aHeavy, amark, aThen, aInBlock, aconvInt, abinO, abin, anil, aunop, aindexAddr, afieldAddr, afield, apart, aindex, aslice, loN, hiN, aextract, amakeIface, anilCheck, aminmax, amin2, amax2, ty, ↓reduceIte, Nat.reduceEqDiff, Nat.reduceAdd, Nat.reduceSub, Nat.reduceMul, Int.reduceLT, Int.reduceLE, Int.reduceNeg, Int.reduceToNat, reduceCtorEq, Nat.reduceBEq, Nat.reduceBNe, skipped, definite, Value.cells, am, mm, keep, ha])
      -- loop end
      rw [hpp]
      refine ⟨(k + 1, H4, s4), ⟨by simp only []; omega, by simp only []; rw [hnx, List.length_append]; exact hlt, k1.trans k4, by simp only []; rw [hnx, List.map_append]; exact o4⟩, (by repeat first | exact Forgets.nil | refine Forgets.cons (by first | (simp only [look, ↓reduceIte, Nat.reduceEqDiff]; done) | (simp only [look, ↓reduceIte, Nat.reduceEqDiff]; rfl) | simp [look, hnx]) ?_), ?_⟩
      first | omega | exact ⟨rfl, by omega⟩ | exact ⟨rfl, by simp only []; omega⟩ | (simp only []; omega)
  intro hge
  try simp only [ge_iff_le, gt_iff_lt, decide_eq_true_eq, decide_eq_false_iff_not, Nat.not_lt, Int.not_lt, Nat.not_le, Int.not_le, Bool.and_eq_true, Bool.or_eq_true, Bool.or_eq_false_iff, bne_iff_ne, ne_eq, beq_iff_eq, bne_eq_false_iff_eq, beq_eq_false_iff_ne, Bool.not_eq_true, Bool.not_eq_false, Bool.not_eq_eq_eq_not, Bool.not_true, Bool.not_false, Nat.not_le, Int.ofNat_lt, Int.ofNat_le, Int.natCast_inj] at hge
  have hll : l.length = n := by omega
  -- exit R12
  iterate 2 ((repeat first | refine awp_seq ?_ | refine awp_block ?_); (first | refine awp_exit ?_ | refine awp_region (by kernel_rfl) ?_); simp -implicitDefEqProofs (disch := (try simp only [sl]); try omega) only [sm, aNext, aSel, aNextL, aNextH, heldC, heldO, heldP, aWanted, isLight, aLight, apure, aread, bd, aload, look, aput, aHeavy, amark, aThen, aInBlock, aconvInt, abinO, abin, anil, aunop, aindexAddr, afieldAddr, afield, apart, aindex, aslice, loN, hiN, aextract, amakeIface, anilCheck, aminmax, amin2, amax2, ty, ↓reduceIte, Nat.reduceEqDiff, Nat.reduceAdd, Nat.reduceSub, Nat.reduceMul, Int.reduceLT, Int.reduceLE, Int.reduceNeg, Int.reduceToNat, reduceCtorEq, Nat.reduceBEq, Nat.reduceBNe, skipped, definite, Value.cells, am, mm, keep])
  first | refine awp_ret ?_ | skip
  show ∃ v, aresults Try.prog Try.f60 _ _ = some v ∧ _
  rw [aresults_1 (r := .tmp 2) (by kernel_rfl)]
  simp -implicitDefEqProofs (disch := (try simp only [sl]); try omega) only [aresult, Option.some.injEq, exists_eq_left', sm, aNext, aSel, aNextL, aNextH, heldC, heldO, heldP, aWanted, isLight, aLight, apure, aread, bd, aload, look, aput, aHeavy, amark, aThen, aInBlock, aconvInt, abinO, abin, anil, aunop, aindexAddr, afieldAddr, afield, apart, aindex, aslice, loN, hiN, aextract, amakeIface, anilCheck, aminmax, amin2, amax2, ty, ↓reduceIte, Nat.reduceEqDiff, Nat.reduceAdd, Nat.reduceSub, Nat.reduceMul, Int.reduceLT, Int.reduceLE, Int.reduceNeg, Int.reduceToNat, reduceCtorEq, Nat.reduceBEq, Nat.reduceBNe, skipped, definite, Value.cells, am, mm, keep]
  rw [← hll, ← htk]
  exact ⟨o1.sl, k1.ext (Nat.le_refl _) (Ext.refl _)⟩
end Go.Proofs.Ytelpdppdhimfoaa
