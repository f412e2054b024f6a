/- The document's constants: products, roots, primes. -/
import Derived.Test.YtelpdppdhimfoaaSh5
namespace Go.Proofs.Ytelpdppdhimfoaa
open Go Go.RowKit
set_option linter.unusedSimpArgs false
set_option linter.unusedVariables false
set_option maxRecDepth 4000
def timesMid (a b : UInt64) : UInt64 := a / 4294967296 * (b % 4294967296) + a % 4294967296 * (b % 4294967296) / 4294967296
def timesMid2 (a b : UInt64) : UInt64 := a % 4294967296 * (b / 4294967296) + timesMid a b % 4294967296
def timesH (a b : UInt64) : UInt64 := a / 4294967296 * (b / 4294967296) + timesMid a b / 4294967296 + timesMid2 a b / 4294967296
def timesL (a b : UInt64) : UInt64 := timesMid2 a b * 4294967296 + a % 4294967296 * (b % 4294967296) % 4294967296
set_option maxHeartbeats 1000000 in
theorem times_calls (a b : UInt64) (H : AH) : ACalls Try.prog 71 #[U64 a, U64 b] H fun v H' => v = .tuple #[U64 (timesH a b), U64 (timesL a b)] ∧ H' = H := by
  refine acalls_of_body Try.func71 rfl Try.ntmps71 (by simp) ?_
  simp only [argsT, Nat.reduceAdd]
  -- R0 R1 R2 R3 R4 R5
  iterate 6 ((repeat first | refine awp_seq ?_ | refine awp_block ?_); (first | refine awp_region (by kernel_rfl) ?_); simp -implicitDefEqProofs (disch := (try simp only [sl]); try omega) only [sm, aNext, aSel, aNextL, aNextH, heldC, heldO, heldP, aWanted, isLight, aLight, apure, aread, bd, aload, look, aput, aHeavy, amark, aThen, aInBlock, aconvInt, abinO, abin, anil, aunop, aindexAddr, afieldAddr, afield, apart, aindex, aslice, loN, hiN, aextract, amakeIface, anilCheck, aminmax, amin2, amax2, ty, ↓reduceIte, Nat.reduceEqDiff, Nat.reduceAdd, Nat.reduceSub, Nat.reduceMul, Int.reduceLT, Int.reduceLE, Int.reduceNeg, Int.reduceToNat, reduceCtorEq, Nat.reduceBEq, Nat.reduceBNe, skipped, definite, Value.cells, am, mm, keep])
  first | refine awp_ret ?_ | skip
  show ∃ v, aresults Try.prog Try.f71 _ _ = some v ∧ _
  rw [aresults_2 (r := .tmp 4) (s := .tmp 5) (by kernel_rfl)]
  simp -implicitDefEqProofs (disch := (try simp only [sl]); try omega) only [aresult, Option.some.injEq, exists_eq_left', sm, aNext, aSel, aNextL, aNextH, heldC, heldO, heldP, aWanted, isLight, aLight, apure, aread, bd, aload, look, aput, aHeavy, amark, aThen, aInBlock, aconvInt, abinO, abin, anil, aunop, aindexAddr, afieldAddr, afield, apart, aindex, aslice, loN, hiN, aextract, amakeIface, anilCheck, aminmax, amin2, amax2, ty, ↓reduceIte, Nat.reduceEqDiff, Nat.reduceAdd, Nat.reduceSub, Nat.reduceMul, Int.reduceLT, Int.reduceLE, Int.reduceNeg, Int.reduceToNat, reduceCtorEq, Nat.reduceBEq, Nat.reduceBNe, skipped, definite, Value.cells, am, mm, keep]
  rfl
theorem shl1 (k : Nat) (h : k < 64) : IntKind.u64.wrap (1 * 2 ^ min k IntKind.u64.bits) = ((((1 : UInt64) <<< UInt64.ofNat k).toNat : Nat) : Int) := by
  have h1 := ashl64 1 (k : Int) (by omega) (by omega)
  rw [ashift, if_neg (by omega)] at h1
  simp only [Option.some.injEq, Value.int.injEq, true_and, Int.toNat_natCast] at h1
  exact h1
/-- One try of a square root's bit. -/
def sqStep (p r : UInt64) (k : Nat) : UInt64 :=
  let x := r + 1 <<< UInt64.ofNat k
  if decide ((timesH x x).toNat < p.toNat) || (timesH x x == p && timesL x x == 0) then x else r
def sqRun (p : UInt64) : Nat → UInt64
  | 0 => 0
  | j + 1 => sqStep p (sqRun p j) (35 - j)
def square (p : UInt64) : UInt32 := (sqRun p 36 % 4294967296).toUInt32
set_option maxHeartbeats 1000000 in
theorem square_calls (p : UInt64) (H : AH) : ACalls Try.prog 62 #[U64 p] H fun v H' => v = U32 (square p) ∧ H' = H := by
  refine acalls_of_body Try.func62 rfl Try.ntmps62 (by simp) ?_
  simp only [argsT, Nat.reduceAdd]
  -- R0 R1 R2
  iterate 3 ((repeat first | refine awp_seq ?_ | refine awp_block ?_); (first | refine awp_region (by kernel_rfl) ?_); simp -implicitDefEqProofs (disch := (try simp only [sl]); try omega) only [sm, aNext, aSel, aNextL, aNextH, heldC, heldO, heldP, aWanted, isLight, aLight, apure, aread, bd, aload, look, aput, aHeavy, amark, aThen, aInBlock, aconvInt, abinO, abin, anil, aunop, aindexAddr, afieldAddr, afield, apart, aindex, aslice, loN, hiN, aextract, amakeIface, anilCheck, aminmax, amin2, amax2, ty, ↓reduceIte, Nat.reduceEqDiff, Nat.reduceAdd, Nat.reduceSub, Nat.reduceMul, Int.reduceLT, Int.reduceLE, Int.reduceNeg, Int.reduceToNat, reduceCtorEq, Nat.reduceBEq, Nat.reduceBNe, skipped, definite, Value.cells, am, mm, keep])
  repeat first | refine awp_seq ?_ | refine awp_block ?_
  refine awp_forK [0] (fun j : Nat => [(4, .int .i64 (35 - (j : Int))), (3, U64 (sqRun p j))]) (fun j : Nat => H) (fun j : Nat => j ≤ 36) (fun j : Nat => 36 - j) (0) (by omega) (by repeat first | exact Forgets.nil | refine Forgets.cons (by first | (simp only [look, ↓reduceIte, Nat.reduceEqDiff]; done) | (simp only [look, ↓reduceIte, Nat.reduceEqDiff]; rfl) | simp [look]) ?_) rfl ?_
  intro j hj
  try simp -implicitDefEqProofs (disch := (try simp only [sl]); try omega) only [sm, aNext, aSel, aNextL, aNextH, heldC, heldO, heldP, aWanted, isLight, aLight, apure, aread, bd, aload, look, aput, aHeavy, amark, aThen, aInBlock, aconvInt, abinO, abin, anil, aunop, aindexAddr, afieldAddr, afield, apart, aindex, aslice, loN, hiN, aextract, amakeIface, anilCheck, aminmax, amin2, amax2, ty, ↓reduceIte, Nat.reduceEqDiff, Nat.reduceAdd, Nat.reduceSub, Nat.reduceMul, Int.reduceLT, Int.reduceLE, Int.reduceNeg, Int.reduceToNat, reduceCtorEq, Nat.reduceBEq, Nat.reduceBNe, skipped, definite, Value.cells, am, mm, keep]
  -- R3
  iterate 1 ((repeat first | refine awp_seq ?_ | refine awp_block ?_); (first | refine awp_region (by kernel_rfl) ?_); simp -implicitDefEqProofs (disch := (try simp only [sl]); try omega) only [sm, aNext, aSel, aNextL, aNextH, heldC, heldO, heldP, aWanted, isLight, aLight, apure, aread, bd, aload, look, aput, aHeavy, amark, aThen, aInBlock, aconvInt, abinO, abin, anil, aunop, aindexAddr, afieldAddr, afield, apart, aindex, aslice, loN, hiN, aextract, amakeIface, anilCheck, aminmax, amin2, amax2, ty, ↓reduceIte, Nat.reduceEqDiff, Nat.reduceAdd, Nat.reduceSub, Nat.reduceMul, Int.reduceLT, Int.reduceLE, Int.reduceNeg, Int.reduceToNat, reduceCtorEq, Nat.reduceBEq, Nat.reduceBNe, skipped, definite, Value.cells, am, mm, keep, aint])
  repeat first | refine awp_seq ?_ | refine awp_block ?_
  refine awp_if _ rfl (by simp only [aeval_tmp, look, ↓reduceIte, Nat.reduceEqDiff]; exact rfl) ?_ ?_
  · intro h
    try simp only [ge_iff_le, gt_iff_lt, decide_eq_true_eq, decide_eq_false_iff_not, Nat.not_lt, Int.not_lt, Nat.not_le, Int.not_le, Bool.and_eq_true, Bool.or_eq_true, Bool.or_eq_false_iff, bne_iff_ne, ne_eq, beq_iff_eq, bne_eq_false_iff_eq, beq_eq_false_iff_ne, Bool.not_eq_true, Bool.not_eq_false, Bool.not_eq_eq_eq_not, Bool.not_true, Bool.not_false, Nat.not_le, Int.ofNat_lt, Int.ofNat_le, Int.natCast_inj] at h
    obtain ⟨k, hk, hk'⟩ : ∃ k : Nat, (35 - (j : Int)) = (k : Int) ∧ k = 35 - j := ⟨35 - j, by omega, rfl⟩
    rw [hk]
    have hsh := shl1 k (by omega)
    have hst : sqRun p (j + 1) = sqStep p (sqRun p j) k := by rw [hk']; rfl
    unfold sqStep at hst
    dsimp only at hst
    have hnk : (k : Int) - 1 = 35 - ((j + 1 : Nat) : Int) := by omega
    have hwk : IntKind.i64.wrap ((k : Int) - 1) = 35 - ((j + 1 : Nat) : Int) := by rw [wj64 (by omega) (by omega)]; exact hnk
    -- skip R5 R6
    iterate 3 ((repeat first | refine awp_seq ?_ | refine awp_block ?_); (first | refine awp_skip ?_ | refine awp_region (by kernel_rfl) ?_); simp -implicitDefEqProofs (disch := (try simp only [sl]); try omega) only [sm, aNext, aSel, aNextL, aNextH, heldC, heldO, heldP, aWanted, isLight, aLight, apure, aread, bd, aload, look, aput, aHeavy, amark, aThen, aInBlock, aconvInt, abinO, abin, anil, aunop, aindexAddr, afieldAddr, afield, apart, aindex, aslice, loN, hiN, aextract, amakeIface, anilCheck, aminmax, amin2, amax2, ty, ↓reduceIte, Nat.reduceEqDiff, Nat.reduceAdd, Nat.reduceSub, Nat.reduceMul, Int.reduceLT, Int.reduceLE, Int.reduceNeg, Int.reduceToNat, reduceCtorEq, Nat.reduceBEq, Nat.reduceBNe, skipped, definite, Value.cells, am, mm, keep, hsh, wadd64])
    -- calls carlingref01.times
    generalize hx : sqRun p j + 1 <<< UInt64.ofNat k = x at *
    refine ACalls.mono (times_calls x x _) ?_
    rintro _ _ ⟨rfl, hHH⟩
    rw [hHH]
    clear hHH
    simp -implicitDefEqProofs (disch := (try simp only [sl]); try omega) only [sm, aNext, aSel, aNextL, aNextH, heldC, heldO, heldP, aWanted, isLight, aLight, apure, aread, bd, aload, look, aput, aHeavy, amark, aThen, aInBlock, aconvInt, abinO, abin, anil, aunop, aindexAddr, afieldAddr, afield, apart, aindex, aslice, loN, hiN, aextract, amakeIface, anilCheck, aminmax, amin2, amax2, ty, ↓reduceIte, Nat.reduceEqDiff, Nat.reduceAdd, Nat.reduceSub, Nat.reduceMul, Int.reduceLT, Int.reduceLE, Int.reduceNeg, Int.reduceToNat, reduceCtorEq, Nat.reduceBEq, Nat.reduceBNe, skipped, definite, Value.cells, am, mm, keep]
    -- (cursor noted)
    by_cases h1 : (timesH x x).toNat < p.toNat
    · skip
      -- (cursor back)
      have h1' := hst
      simp only [h1, decide_true, decide_false, Bool.true_or, Bool.false_or, Bool.true_and, Bool.false_and, Bool.and_true, Bool.and_false, Bool.false_eq_true, if_true, if_false, Bool.or_true, Bool.or_false] at h1'
      -- R7
      iterate 1 ((repeat first | refine awp_seq ?_ | refine awp_block ?_); (first | refine awp_region (by kernel_rfl) ?_); simp -implicitDefEqProofs (disch := (try simp only [sl]); try omega) only [sm, aNext, aSel, aNextL, aNextH, heldC, heldO, heldP, aWanted, isLight, aLight, apure, aread, bd, aload, look, aput, aHeavy, amark, aThen, aInBlock, aconvInt, abinO, abin, anil, aunop, aindexAddr, afieldAddr, afield, apart, aindex, aslice, loN, hiN, aextract, amakeIface, anilCheck, aminmax, amin2, amax2, ty, ↓reduceIte, Nat.reduceEqDiff, Nat.reduceAdd, Nat.reduceSub, Nat.reduceMul, Int.reduceLT, Int.reduceLE, Int.reduceNeg, Int.reduceToNat, reduceCtorEq, Nat.reduceBEq, Nat.reduceBNe, skipped, definite, Value.cells, am, mm, keep, h1])
      repeat first | refine awp_seq ?_ | refine awp_block ?_
      refine awp_if true rfl (by simp only [aeval_tmp, look, ↓reduceIte, Nat.reduceEqDiff]; try rfl) (fun _ => ?_) (fun h => absurd h (by decide))
      -- R8 R4
      iterate 2 ((repeat first | refine awp_seq ?_ | refine awp_block ?_); (first | refine awp_region (by kernel_rfl) ?_); simp -implicitDefEqProofs (disch := (try simp only [sl]); try omega) only [sm, aNext, aSel, aNextL, aNextH, heldC, heldO, heldP, aWanted, isLight, aLight, apure, aread, bd, aload, look, aput, aHeavy, amark, aThen, aInBlock, aconvInt, abinO, abin, anil, aunop, aindexAddr, afieldAddr, afield, apart, aindex, aslice, loN, hiN, aextract, amakeIface, anilCheck, aminmax, amin2, amax2, ty, ↓reduceIte, Nat.reduceEqDiff, Nat.reduceAdd, Nat.reduceSub, Nat.reduceMul, Int.reduceLT, Int.reduceLE, Int.reduceNeg, Int.reduceToNat, reduceCtorEq, Nat.reduceBEq, Nat.reduceBNe, skipped, definite, Value.cells, am, mm, keep, aint, hwk])
      -- loop end
      rw [← h1']
      refine ⟨j + 1, by omega, (by repeat first | exact Forgets.nil | refine Forgets.cons (by first | (simp only [look, ↓reduceIte, Nat.reduceEqDiff]; done) | (simp only [look, ↓reduceIte, Nat.reduceEqDiff]; rfl) | simp [look]) ?_), ?_⟩
      first | omega | exact ⟨rfl, by omega⟩ | exact ⟨rfl, by simp only []; omega⟩ | (simp only []; omega)
    cases h2 : (timesH x x == p)
    · skip
      -- (cursor back)
      have h1' := hst
      simp only [h1, h2, decide_true, decide_false, Bool.true_or, Bool.false_or, Bool.true_and, Bool.false_and, Bool.and_true, Bool.and_false, Bool.false_eq_true, if_true, if_false, Bool.or_true, Bool.or_false] at h1'
      -- R7
      iterate 1 ((repeat first | refine awp_seq ?_ | refine awp_block ?_); (first | refine awp_region (by kernel_rfl) ?_); simp -implicitDefEqProofs (disch := (try simp only [sl]); try omega) only [sm, aNext, aSel, aNextL, aNextH, heldC, heldO, heldP, aWanted, isLight, aLight, apure, aread, bd, aload, look, aput, aHeavy, amark, aThen, aInBlock, aconvInt, abinO, abin, anil, aunop, aindexAddr, afieldAddr, afield, apart, aindex, aslice, loN, hiN, aextract, amakeIface, anilCheck, aminmax, amin2, amax2, ty, ↓reduceIte, Nat.reduceEqDiff, Nat.reduceAdd, Nat.reduceSub, Nat.reduceMul, Int.reduceLT, Int.reduceLE, Int.reduceNeg, Int.reduceToNat, reduceCtorEq, Nat.reduceBEq, Nat.reduceBNe, skipped, definite, Value.cells, am, mm, keep, h1, h2])
      repeat first | refine awp_seq ?_ | refine awp_block ?_
      refine awp_if false rfl (by simp only [aeval_tmp, look, ↓reduceIte, Nat.reduceEqDiff]; try rfl) (fun h => absurd h (by decide)) (fun _ => ?_)
      -- skip R4
      iterate 2 ((repeat first | refine awp_seq ?_ | refine awp_block ?_); (first | refine awp_skip ?_ | refine awp_region (by kernel_rfl) ?_); simp -implicitDefEqProofs (disch := (try simp only [sl]); try omega) only [sm, aNext, aSel, aNextL, aNextH, heldC, heldO, heldP, aWanted, isLight, aLight, apure, aread, bd, aload, look, aput, aHeavy, amark, aThen, aInBlock, aconvInt, abinO, abin, anil, aunop, aindexAddr, afieldAddr, afield, apart, aindex, aslice, loN, hiN, aextract, amakeIface, anilCheck, aminmax, amin2, amax2, ty, ↓reduceIte, Nat.reduceEqDiff, Nat.reduceAdd, Nat.reduceSub, Nat.reduceMul, Int.reduceLT, Int.reduceLE, Int.reduceNeg, Int.reduceToNat, reduceCtorEq, Nat.reduceBEq, Nat.reduceBNe, skipped, definite, Value.cells, am, mm, keep, aint, hwk])
      -- loop end
      rw [← h1']
      refine ⟨j + 1, by omega, (by repeat first | exact Forgets.nil | refine Forgets.cons (by first | (simp only [look, ↓reduceIte, Nat.reduceEqDiff]; done) | (simp only [look, ↓reduceIte, Nat.reduceEqDiff]; rfl) | simp [look]) ?_), ?_⟩
      first | omega | exact ⟨rfl, by omega⟩ | exact ⟨rfl, by simp only []; omega⟩ | (simp only []; omega)
    cases h3 : (timesL x x == 0)
    · skip
      -- (cursor back)
      have h1' := hst
      simp only [h1, h2, h3, decide_true, decide_false, Bool.true_or, Bool.false_or, Bool.true_and, Bool.false_and, Bool.and_true, Bool.and_false, Bool.false_eq_true, if_true, if_false, Bool.or_true, Bool.or_false] at h1'
      -- R7
      iterate 1 ((repeat first | refine awp_seq ?_ | refine awp_block ?_); (first | refine awp_region (by kernel_rfl) ?_); simp -implicitDefEqProofs (disch := (try simp only [sl]); try omega) only [sm, aNext, aSel, aNextL, aNextH, heldC, heldO, heldP, aWanted, isLight, aLight, apure, aread, bd, aload, look, aput, aHeavy, amark, aThen, aInBlock, aconvInt, abinO, abin, anil, aunop, aindexAddr, afieldAddr, afield, apart, aindex, aslice, loN, hiN, aextract, amakeIface, anilCheck, aminmax, amin2, amax2, ty, ↓reduceIte, Nat.reduceEqDiff, Nat.reduceAdd, Nat.reduceSub, Nat.reduceMul, Int.reduceLT, Int.reduceLE, Int.reduceNeg, Int.reduceToNat, reduceCtorEq, Nat.reduceBEq, Nat.reduceBNe, skipped, definite, Value.cells, am, mm, keep, h1, h2, h3])
      repeat first | refine awp_seq ?_ | refine awp_block ?_
      refine awp_if false rfl (by simp only [aeval_tmp, look, ↓reduceIte, Nat.reduceEqDiff]; try rfl) (fun h => absurd h (by decide)) (fun _ => ?_)
      -- skip R4
      iterate 2 ((repeat first | refine awp_seq ?_ | refine awp_block ?_); (first | refine awp_skip ?_ | refine awp_region (by kernel_rfl) ?_); simp -implicitDefEqProofs (disch := (try simp only [sl]); try omega) only [sm, aNext, aSel, aNextL, aNextH, heldC, heldO, heldP, aWanted, isLight, aLight, apure, aread, bd, aload, look, aput, aHeavy, amark, aThen, aInBlock, aconvInt, abinO, abin, anil, aunop, aindexAddr, afieldAddr, afield, apart, aindex, aslice, loN, hiN, aextract, amakeIface, anilCheck, aminmax, amin2, amax2, ty, ↓reduceIte, Nat.reduceEqDiff, Nat.reduceAdd, Nat.reduceSub, Nat.reduceMul, Int.reduceLT, Int.reduceLE, Int.reduceNeg, Int.reduceToNat, reduceCtorEq, Nat.reduceBEq, Nat.reduceBNe, skipped, definite, Value.cells, am, mm, keep, aint, hwk])
      -- loop end
      rw [← h1']
      refine ⟨j + 1, by omega, (by repeat first | exact Forgets.nil | refine Forgets.cons (by first | (simp only [look, ↓reduceIte, Nat.reduceEqDiff]; done) | (simp only [look, ↓reduceIte, Nat.reduceEqDiff]; rfl) | simp [look]) ?_), ?_⟩
      first | omega | exact ⟨rfl, by omega⟩ | exact ⟨rfl, by simp only []; omega⟩ | (simp only []; omega)
    · skip
      -- (cursor back)
      have h1' := hst
      simp only [h1, h2, h3, decide_true, decide_false, Bool.true_or, Bool.false_or, Bool.true_and, Bool.false_and, Bool.and_true, Bool.and_false, Bool.false_eq_true, if_true, if_false, Bool.or_true, Bool.or_false] at h1'
      -- R7
      iterate 1 ((repeat first | refine awp_seq ?_ | refine awp_block ?_); (first | refine awp_region (by kernel_rfl) ?_); simp -implicitDefEqProofs (disch := (try simp only [sl]); try omega) only [sm, aNext, aSel, aNextL, aNextH, heldC, heldO, heldP, aWanted, isLight, aLight, apure, aread, bd, aload, look, aput, aHeavy, amark, aThen, aInBlock, aconvInt, abinO, abin, anil, aunop, aindexAddr, afieldAddr, afield, apart, aindex, aslice, loN, hiN, aextract, amakeIface, anilCheck, aminmax, amin2, amax2, ty, ↓reduceIte, Nat.reduceEqDiff, Nat.reduceAdd, Nat.reduceSub, Nat.reduceMul, Int.reduceLT, Int.reduceLE, Int.reduceNeg, Int.reduceToNat, reduceCtorEq, Nat.reduceBEq, Nat.reduceBNe, skipped, definite, Value.cells, am, mm, keep, h1, h2, h3])
      repeat first | refine awp_seq ?_ | refine awp_block ?_
      refine awp_if true rfl (by simp only [aeval_tmp, look, ↓reduceIte, Nat.reduceEqDiff]; try rfl) (fun _ => ?_) (fun h => absurd h (by decide))
      -- R8 R4
      iterate 2 ((repeat first | refine awp_seq ?_ | refine awp_block ?_); (first | refine awp_region (by kernel_rfl) ?_); simp -implicitDefEqProofs (disch := (try simp only [sl]); try omega) only [sm, aNext, aSel, aNextL, aNextH, heldC, heldO, heldP, aWanted, isLight, aLight, apure, aread, bd, aload, look, aput, aHeavy, amark, aThen, aInBlock, aconvInt, abinO, abin, anil, aunop, aindexAddr, afieldAddr, afield, apart, aindex, aslice, loN, hiN, aextract, amakeIface, anilCheck, aminmax, amin2, amax2, ty, ↓reduceIte, Nat.reduceEqDiff, Nat.reduceAdd, Nat.reduceSub, Nat.reduceMul, Int.reduceLT, Int.reduceLE, Int.reduceNeg, Int.reduceToNat, reduceCtorEq, Nat.reduceBEq, Nat.reduceBNe, skipped, definite, Value.cells, am, mm, keep, aint, hwk])
      -- loop end
      rw [← h1']
      refine ⟨j + 1, by omega, (by repeat first | exact Forgets.nil | refine Forgets.cons (by first | (simp only [look, ↓reduceIte, Nat.reduceEqDiff]; done) | (simp only [look, ↓reduceIte, Nat.reduceEqDiff]; rfl) | simp [look]) ?_), ?_⟩
      first | omega | exact ⟨rfl, by omega⟩ | exact ⟨rfl, by simp only []; omega⟩ | (simp only []; omega)
  intro h
  try simp only [ge_iff_le, gt_iff_lt, decide_eq_true_eq, decide_eq_false_iff_not, Nat.not_lt, Int.not_lt, Nat.not_le, Int.not_le, Bool.and_eq_true, Bool.or_eq_true, Bool.or_eq_false_iff, bne_iff_ne, ne_eq, beq_iff_eq, bne_eq_false_iff_eq, beq_eq_false_iff_ne, Bool.not_eq_true, Bool.not_eq_false, Bool.not_eq_eq_eq_not, Bool.not_true, Bool.not_false, Nat.not_le, Int.ofNat_lt, Int.ofNat_le, Int.natCast_inj] at h
  obtain rfl : j = 36 := by omega
  -- exit R9
  iterate 2 ((repeat first | refine awp_seq ?_ | refine awp_block ?_); (first | refine awp_exit ?_ | refine awp_region (by kernel_rfl) ?_); simp -implicitDefEqProofs (disch := (try simp only [sl]); try omega) only [sm, aNext, aSel, aNextL, aNextH, heldC, heldO, heldP, aWanted, isLight, aLight, apure, aread, bd, aload, look, aput, aHeavy, amark, aThen, aInBlock, aconvInt, abinO, abin, anil, aunop, aindexAddr, afieldAddr, afield, apart, aindex, aslice, loN, hiN, aextract, amakeIface, anilCheck, aminmax, amin2, amax2, ty, ↓reduceIte, Nat.reduceEqDiff, Nat.reduceAdd, Nat.reduceSub, Nat.reduceMul, Int.reduceLT, Int.reduceLE, Int.reduceNeg, Int.reduceToNat, reduceCtorEq, Nat.reduceBEq, Nat.reduceBNe, skipped, definite, Value.cells, am, mm, keep])
  first | refine awp_ret ?_ | skip
  show ∃ v, aresults Try.prog Try.f62 _ _ = some v ∧ _
  rw [aresults_1 (r := .tmp 2) (by kernel_rfl)]
  simp -implicitDefEqProofs (disch := (try simp only [sl]); try omega) only [aresult, Option.some.injEq, exists_eq_left', sm, aNext, aSel, aNextL, aNextH, heldC, heldO, heldP, aWanted, isLight, aLight, apure, aread, bd, aload, look, aput, aHeavy, amark, aThen, aInBlock, aconvInt, abinO, abin, anil, aunop, aindexAddr, afieldAddr, afield, apart, aindex, aslice, loN, hiN, aextract, amakeIface, anilCheck, aminmax, amin2, amax2, ty, ↓reduceIte, Nat.reduceEqDiff, Nat.reduceAdd, Nat.reduceSub, Nat.reduceMul, Int.reduceLT, Int.reduceLE, Int.reduceNeg, Int.reduceToNat, reduceCtorEq, Nat.reduceBEq, Nat.reduceBNe, skipped, definite, Value.cells, am, mm, keep]
  rfl
/-- One try of a cube root's bit. -/
def cuMid (x : UInt64) : UInt64 := timesH (timesL x x) x + timesL (timesH x x) x
def cuTop (x : UInt64) : UInt64 := if (cuMid x).toNat < (timesH (timesL x x) x).toNat then timesH (timesH x x) x + 1 else timesH (timesH x x) x
def cuOk (p x : UInt64) : Bool := (cuTop x == 0) && (decide ((cuMid x).toNat < (p * 4294967296).toNat) || (cuMid x == p * 4294967296 && timesL (timesL x x) x == 0))
def cuStep (p r : UInt64) (k : Nat) : UInt64 := if cuOk p (r + 1 <<< UInt64.ofNat k) = true then r + 1 <<< UInt64.ofNat k else r
def cuRun (p : UInt64) : Nat → UInt64
  | 0 => 0
  | j + 1 => cuStep p (cuRun p j) (34 - j)
def cube (p : UInt64) : UInt32 := (cuRun p 35 % 4294967296).toUInt32
set_option maxHeartbeats 4000000 in
theorem cube_calls (p : UInt64) (H : AH) : ACalls Try.prog 61 #[U64 p] H fun v H' => v = U32 (cube p) ∧ H' = H := by
  refine acalls_of_body Try.func61 rfl Try.ntmps61 (by simp) ?_
  simp only [argsT, Nat.reduceAdd]
  -- R0 R1 R2
  iterate 3 ((repeat first | refine awp_seq ?_ | refine awp_block ?_); (first | refine awp_region (by kernel_rfl) ?_); simp -implicitDefEqProofs (disch := (try simp only [sl]); try omega) only [sm, aNext, aSel, aNextL, aNextH, heldC, heldO, heldP, aWanted, isLight, aLight, apure, aread, bd, aload, look, aput, aHeavy, amark, aThen, aInBlock, aconvInt, abinO, abin, anil, aunop, aindexAddr, afieldAddr, afield, apart, aindex, aslice, loN, hiN, aextract, amakeIface, anilCheck, aminmax, amin2, amax2, ty, ↓reduceIte, Nat.reduceEqDiff, Nat.reduceAdd, Nat.reduceSub, Nat.reduceMul, Int.reduceLT, Int.reduceLE, Int.reduceNeg, Int.reduceToNat, reduceCtorEq, Nat.reduceBEq, Nat.reduceBNe, skipped, definite, Value.cells, am, mm, keep])
  repeat first | refine awp_seq ?_ | refine awp_block ?_
  refine awp_forK [0] (fun j : Nat => [(4, .int .i64 (34 - (j : Int))), (3, U64 (cuRun p j))]) (fun j : Nat => H) (fun j : Nat => j ≤ 35) (fun j : Nat => 35 - j) (0) (by omega) (by repeat first | exact Forgets.nil | refine Forgets.cons (by first | (simp only [look, ↓reduceIte, Nat.reduceEqDiff]; done) | (simp only [look, ↓reduceIte, Nat.reduceEqDiff]; rfl) | simp [look]) ?_) rfl ?_
  intro j hj
  try simp -implicitDefEqProofs (disch := (try simp only [sl]); try omega) only [sm, aNext, aSel, aNextL, aNextH, heldC, heldO, heldP, aWanted, isLight, aLight, apure, aread, bd, aload, look, aput, aHeavy, amark, aThen, aInBlock, aconvInt, abinO, abin, anil, aunop, aindexAddr, afieldAddr, afield, apart, aindex, aslice, loN, hiN, aextract, amakeIface, anilCheck, aminmax, amin2, amax2, ty, ↓reduceIte, Nat.reduceEqDiff, Nat.reduceAdd, Nat.reduceSub, Nat.reduceMul, Int.reduceLT, Int.reduceLE, Int.reduceNeg, Int.reduceToNat, reduceCtorEq, Nat.reduceBEq, Nat.reduceBNe, skipped, definite, Value.cells, am, mm, keep]
  -- R3
  iterate 1 ((repeat first | refine awp_seq ?_ | refine awp_block ?_); (first | refine awp_region (by kernel_rfl) ?_); simp -implicitDefEqProofs (disch := (try simp only [sl]); try omega) only [sm, aNext, aSel, aNextL, aNextH, heldC, heldO, heldP, aWanted, isLight, aLight, apure, aread, bd, aload, look, aput, aHeavy, amark, aThen, aInBlock, aconvInt, abinO, abin, anil, aunop, aindexAddr, afieldAddr, afield, apart, aindex, aslice, loN, hiN, aextract, amakeIface, anilCheck, aminmax, amin2, amax2, ty, ↓reduceIte, Nat.reduceEqDiff, Nat.reduceAdd, Nat.reduceSub, Nat.reduceMul, Int.reduceLT, Int.reduceLE, Int.reduceNeg, Int.reduceToNat, reduceCtorEq, Nat.reduceBEq, Nat.reduceBNe, skipped, definite, Value.cells, am, mm, keep, aint])
  repeat first | refine awp_seq ?_ | refine awp_block ?_
  refine awp_if _ rfl (by simp only [aeval_tmp, look, ↓reduceIte, Nat.reduceEqDiff]; exact rfl) ?_ ?_
  · intro h
    try simp only [ge_iff_le, gt_iff_lt, decide_eq_true_eq, decide_eq_false_iff_not, Nat.not_lt, Int.not_lt, Nat.not_le, Int.not_le, Bool.and_eq_true, Bool.or_eq_true, Bool.or_eq_false_iff, bne_iff_ne, ne_eq, beq_iff_eq, bne_eq_false_iff_eq, beq_eq_false_iff_ne, Bool.not_eq_true, Bool.not_eq_false, Bool.not_eq_eq_eq_not, Bool.not_true, Bool.not_false, Nat.not_le, Int.ofNat_lt, Int.ofNat_le, Int.natCast_inj] at h
    obtain ⟨k, hk, hk'⟩ : ∃ k : Nat, (34 - (j : Int)) = (k : Int) ∧ k = 34 - j := ⟨34 - j, by omega, rfl⟩
    rw [hk]
    have hsh := shl1 k (by omega)
    have hst : cuRun p (j + 1) = cuStep p (cuRun p j) k := by rw [hk']; rfl
    unfold cuStep at hst
    have hwk : IntKind.i64.wrap ((k : Int) - 1) = 34 - ((j + 1 : Nat) : Int) := by rw [wj64 (by omega) (by omega)]; omega
    -- skip R5 R6
    iterate 3 ((repeat first | refine awp_seq ?_ | refine awp_block ?_); (first | refine awp_skip ?_ | refine awp_region (by kernel_rfl) ?_); simp -implicitDefEqProofs (disch := (try simp only [sl]); try omega) only [sm, aNext, aSel, aNextL, aNextH, heldC, heldO, heldP, aWanted, isLight, aLight, apure, aread, bd, aload, look, aput, aHeavy, amark, aThen, aInBlock, aconvInt, abinO, abin, anil, aunop, aindexAddr, afieldAddr, afield, apart, aindex, aslice, loN, hiN, aextract, amakeIface, anilCheck, aminmax, amin2, amax2, ty, ↓reduceIte, Nat.reduceEqDiff, Nat.reduceAdd, Nat.reduceSub, Nat.reduceMul, Int.reduceLT, Int.reduceLE, Int.reduceNeg, Int.reduceToNat, reduceCtorEq, Nat.reduceBEq, Nat.reduceBNe, skipped, definite, Value.cells, am, mm, keep, hsh, wadd64])
    -- calls carlingref01.times
    generalize hx : cuRun p j + 1 <<< UInt64.ofNat k = x at *
    refine ACalls.mono (times_calls x x _) ?_
    rintro _ _ ⟨rfl, hHH⟩
    rw [hHH]
    clear hHH
    simp -implicitDefEqProofs (disch := (try simp only [sl]); try omega) only [sm, aNext, aSel, aNextL, aNextH, heldC, heldO, heldP, aWanted, isLight, aLight, apure, aread, bd, aload, look, aput, aHeavy, amark, aThen, aInBlock, aconvInt, abinO, abin, anil, aunop, aindexAddr, afieldAddr, afield, apart, aindex, aslice, loN, hiN, aextract, amakeIface, anilCheck, aminmax, amin2, amax2, ty, ↓reduceIte, Nat.reduceEqDiff, Nat.reduceAdd, Nat.reduceSub, Nat.reduceMul, Int.reduceLT, Int.reduceLE, Int.reduceNeg, Int.reduceToNat, reduceCtorEq, Nat.reduceBEq, Nat.reduceBNe, skipped, definite, Value.cells, am, mm, keep]
    -- R7
    iterate 1 ((repeat first | refine awp_seq ?_ | refine awp_block ?_); (first | refine awp_region (by kernel_rfl) ?_); simp -implicitDefEqProofs (disch := (try simp only [sl]); try omega) only [sm, aNext, aSel, aNextL, aNextH, heldC, heldO, heldP, aWanted, isLight, aLight, apure, aread, bd, aload, look, aput, aHeavy, amark, aThen, aInBlock, aconvInt, abinO, abin, anil, aunop, aindexAddr, afieldAddr, afield, apart, aindex, aslice, loN, hiN, aextract, amakeIface, anilCheck, aminmax, amin2, amax2, ty, ↓reduceIte, Nat.reduceEqDiff, Nat.reduceAdd, Nat.reduceSub, Nat.reduceMul, Int.reduceLT, Int.reduceLE, Int.reduceNeg, Int.reduceToNat, reduceCtorEq, Nat.reduceBEq, Nat.reduceBNe, skipped, definite, Value.cells, am, mm, keep])
    -- calls carlingref01.times
    refine ACalls.mono (times_calls (timesL x x) x _) ?_
    rintro _ _ ⟨rfl, hHH⟩
    rw [hHH]
    clear hHH
    simp -implicitDefEqProofs (disch := (try simp only [sl]); try omega) only [sm, aNext, aSel, aNextL, aNextH, heldC, heldO, heldP, aWanted, isLight, aLight, apure, aread, bd, aload, look, aput, aHeavy, amark, aThen, aInBlock, aconvInt, abinO, abin, anil, aunop, aindexAddr, afieldAddr, afield, apart, aindex, aslice, loN, hiN, aextract, amakeIface, anilCheck, aminmax, amin2, amax2, ty, ↓reduceIte, Nat.reduceEqDiff, Nat.reduceAdd, Nat.reduceSub, Nat.reduceMul, Int.reduceLT, Int.reduceLE, Int.reduceNeg, Int.reduceToNat, reduceCtorEq, Nat.reduceBEq, Nat.reduceBNe, skipped, definite, Value.cells, am, mm, keep]
    -- R8
    iterate 1 ((repeat first | refine awp_seq ?_ | refine awp_block ?_); (first | refine awp_region (by kernel_rfl) ?_); simp -implicitDefEqProofs (disch := (try simp only [sl]); try omega) only [sm, aNext, aSel, aNextL, aNextH, heldC, heldO, heldP, aWanted, isLight, aLight, apure, aread, bd, aload, look, aput, aHeavy, amark, aThen, aInBlock, aconvInt, abinO, abin, anil, aunop, aindexAddr, afieldAddr, afield, apart, aindex, aslice, loN, hiN, aextract, amakeIface, anilCheck, aminmax, amin2, amax2, ty, ↓reduceIte, Nat.reduceEqDiff, Nat.reduceAdd, Nat.reduceSub, Nat.reduceMul, Int.reduceLT, Int.reduceLE, Int.reduceNeg, Int.reduceToNat, reduceCtorEq, Nat.reduceBEq, Nat.reduceBNe, skipped, definite, Value.cells, am, mm, keep])
    -- calls carlingref01.times
    refine ACalls.mono (times_calls (timesH x x) x _) ?_
    rintro _ _ ⟨rfl, hHH⟩
    rw [hHH]
    clear hHH
    simp -implicitDefEqProofs (disch := (try simp only [sl]); try omega) only [sm, aNext, aSel, aNextL, aNextH, heldC, heldO, heldP, aWanted, isLight, aLight, apure, aread, bd, aload, look, aput, aHeavy, amark, aThen, aInBlock, aconvInt, abinO, abin, anil, aunop, aindexAddr, afieldAddr, afield, apart, aindex, aslice, loN, hiN, aextract, amakeIface, anilCheck, aminmax, amin2, amax2, ty, ↓reduceIte, Nat.reduceEqDiff, Nat.reduceAdd, Nat.reduceSub, Nat.reduceMul, Int.reduceLT, Int.reduceLE, Int.reduceNeg, Int.reduceToNat, reduceCtorEq, Nat.reduceBEq, Nat.reduceBNe, skipped, definite, Value.cells, am, mm, keep]
    -- R9 R10
    iterate 2 ((repeat first | refine awp_seq ?_ | refine awp_block ?_); (first | refine awp_region (by kernel_rfl) ?_); simp -implicitDefEqProofs (disch := (try simp only [sl]); try omega) only [sm, aNext, aSel, aNextL, aNextH, heldC, heldO, heldP, aWanted, isLight, aLight, apure, aread, bd, aload, look, aput, aHeavy, amark, aThen, aInBlock, aconvInt, abinO, abin, anil, aunop, aindexAddr, afieldAddr, afield, apart, aindex, aslice, loN, hiN, aextract, amakeIface, anilCheck, aminmax, amin2, amax2, ty, ↓reduceIte, Nat.reduceEqDiff, Nat.reduceAdd, Nat.reduceSub, Nat.reduceMul, Int.reduceLT, Int.reduceLE, Int.reduceNeg, Int.reduceToNat, reduceCtorEq, Nat.reduceBEq, Nat.reduceBNe, skipped, definite, Value.cells, am, mm, keep])
    refine awp_seq ?_
    refine awp_join [0, 3, 4, 5, 9, 12] (fun tp : UInt64 => [(13, U64 tp)]) (fun tp : UInt64 => H) (fun tp : UInt64 => tp = cuTop x) ?_ ?_
    · -- R11
      iterate 1 ((repeat first | refine awp_seq ?_ | refine awp_block ?_); (first | refine awp_region (by kernel_rfl) ?_); simp -implicitDefEqProofs (disch := (try simp only [sl]); try omega) only [sm, aNext, aSel, aNextL, aNextH, heldC, heldO, heldP, aWanted, isLight, aLight, apure, aread, bd, aload, look, aput, aHeavy, amark, aThen, aInBlock, aconvInt, abinO, abin, anil, aunop, aindexAddr, afieldAddr, afield, apart, aindex, aslice, loN, hiN, aextract, amakeIface, anilCheck, aminmax, amin2, amax2, ty, ↓reduceIte, Nat.reduceEqDiff, Nat.reduceAdd, Nat.reduceSub, Nat.reduceMul, Int.reduceLT, Int.reduceLE, Int.reduceNeg, Int.reduceToNat, reduceCtorEq, Nat.reduceBEq, Nat.reduceBNe, skipped, definite, Value.cells, am, mm, keep])
      repeat first | refine awp_seq ?_ | refine awp_block ?_
      refine awp_if _ rfl (by simp only [aeval_tmp, look, ↓reduceIte, Nat.reduceEqDiff]; exact rfl) ?_ ?_
      · intro hc
        try simp only [ge_iff_le, gt_iff_lt, decide_eq_true_eq, decide_eq_false_iff_not, Nat.not_lt, Int.not_lt, Nat.not_le, Int.not_le, Bool.and_eq_true, Bool.or_eq_true, Bool.or_eq_false_iff, bne_iff_ne, ne_eq, beq_iff_eq, bne_eq_false_iff_eq, beq_eq_false_iff_ne, Bool.not_eq_true, Bool.not_eq_false, Bool.not_eq_eq_eq_not, Bool.not_true, Bool.not_false, Nat.not_le, Int.ofNat_lt, Int.ofNat_le, Int.natCast_inj] at hc
        -- R12
        iterate 1 ((repeat first | refine awp_seq ?_ | refine awp_block ?_); (first | refine awp_region (by kernel_rfl) ?_); simp -implicitDefEqProofs (disch := (try simp only [sl]); try omega) only [sm, aNext, aSel, aNextL, aNextH, heldC, heldO, heldP, aWanted, isLight, aLight, apure, aread, bd, aload, look, aput, aHeavy, amark, aThen, aInBlock, aconvInt, abinO, abin, anil, aunop, aindexAddr, afieldAddr, afield, apart, aindex, aslice, loN, hiN, aextract, amakeIface, anilCheck, aminmax, amin2, amax2, ty, ↓reduceIte, Nat.reduceEqDiff, Nat.reduceAdd, Nat.reduceSub, Nat.reduceMul, Int.reduceLT, Int.reduceLE, Int.reduceNeg, Int.reduceToNat, reduceCtorEq, Nat.reduceBEq, Nat.reduceBNe, skipped, definite, Value.cells, am, mm, keep])
        -- loop end
        try simp only [keep, look, ↓reduceIte, Nat.reduceEqDiff, List.cons_append, List.nil_append]
        refine ⟨timesH (timesH x x) x + 1, by unfold cuTop cuMid; rw [if_pos hc], ?_⟩
        first | exact ⟨(by repeat first | exact Forgets.nil | refine Forgets.cons (by first | (simp only [look, ↓reduceIte, Nat.reduceEqDiff]; done) | (simp only [look, ↓reduceIte, Nat.reduceEqDiff]; rfl) | simp [look]) ?_), rfl⟩ | refine ⟨(by repeat first | exact Forgets.nil | refine Forgets.cons (by first | (simp only [look, ↓reduceIte, Nat.reduceEqDiff]; done) | (simp only [look, ↓reduceIte, Nat.reduceEqDiff]; rfl) | simp [look]) ?_), ?_⟩ | exact (by repeat first | exact Forgets.nil | refine Forgets.cons (by first | (simp only [look, ↓reduceIte, Nat.reduceEqDiff]; done) | (simp only [look, ↓reduceIte, Nat.reduceEqDiff]; rfl) | simp [look]) ?_)
      intro hc
      try simp only [ge_iff_le, gt_iff_lt, decide_eq_true_eq, decide_eq_false_iff_not, Nat.not_lt, Int.not_lt, Nat.not_le, Int.not_le, Bool.and_eq_true, Bool.or_eq_true, Bool.or_eq_false_iff, bne_iff_ne, ne_eq, beq_iff_eq, bne_eq_false_iff_eq, beq_eq_false_iff_ne, Bool.not_eq_true, Bool.not_eq_false, Bool.not_eq_eq_eq_not, Bool.not_true, Bool.not_false, Nat.not_le, Int.ofNat_lt, Int.ofNat_le, Int.natCast_inj] at hc
      -- skip
      iterate 1 ((repeat first | refine awp_seq ?_ | refine awp_block ?_); (first | refine awp_skip ?_); simp -implicitDefEqProofs (disch := (try simp only [sl]); try omega) only [sm, aNext, aSel, aNextL, aNextH, heldC, heldO, heldP, aWanted, isLight, aLight, apure, aread, bd, aload, look, aput, aHeavy, amark, aThen, aInBlock, aconvInt, abinO, abin, anil, aunop, aindexAddr, afieldAddr, afield, apart, aindex, aslice, loN, hiN, aextract, amakeIface, anilCheck, aminmax, amin2, amax2, ty, ↓reduceIte, Nat.reduceEqDiff, Nat.reduceAdd, Nat.reduceSub, Nat.reduceMul, Int.reduceLT, Int.reduceLE, Int.reduceNeg, Int.reduceToNat, reduceCtorEq, Nat.reduceBEq, Nat.reduceBNe, skipped, definite, Value.cells, am, mm, keep])
      -- loop end
      try simp only [keep, look, ↓reduceIte, Nat.reduceEqDiff, List.cons_append, List.nil_append]
      refine ⟨timesH (timesH x x) x, by unfold cuTop cuMid; rw [if_neg (by omega)], ?_⟩
      first | exact ⟨(by repeat first | exact Forgets.nil | refine Forgets.cons (by first | (simp only [look, ↓reduceIte, Nat.reduceEqDiff]; done) | (simp only [look, ↓reduceIte, Nat.reduceEqDiff]; rfl) | simp [look]) ?_), rfl⟩ | refine ⟨(by repeat first | exact Forgets.nil | refine Forgets.cons (by first | (simp only [look, ↓reduceIte, Nat.reduceEqDiff]; done) | (simp only [look, ↓reduceIte, Nat.reduceEqDiff]; rfl) | simp [look]) ?_), ?_⟩ | exact (by repeat first | exact Forgets.nil | refine Forgets.cons (by first | (simp only [look, ↓reduceIte, Nat.reduceEqDiff]; done) | (simp only [look, ↓reduceIte, Nat.reduceEqDiff]; rfl) | simp [look]) ?_)
    rintro tp rfl
    -- joined
    have hmid : timesH (timesL x x) x + timesL (timesH x x) x = cuMid x := rfl
    try simp -implicitDefEqProofs (disch := (try simp only [sl]); try omega) only [sm, aNext, aSel, aNextL, aNextH, heldC, heldO, heldP, aWanted, isLight, aLight, apure, aread, bd, aload, look, aput, aHeavy, amark, aThen, aInBlock, aconvInt, abinO, abin, anil, aunop, aindexAddr, afieldAddr, afield, apart, aindex, aslice, loN, hiN, aextract, amakeIface, anilCheck, aminmax, amin2, amax2, ty, ↓reduceIte, Nat.reduceEqDiff, Nat.reduceAdd, Nat.reduceSub, Nat.reduceMul, Int.reduceLT, Int.reduceLE, Int.reduceNeg, Int.reduceToNat, reduceCtorEq, Nat.reduceBEq, Nat.reduceBNe, skipped, definite, Value.cells, am, mm, keep, hmid]
    unfold cuOk at hst
    generalize cuMid x = md at *
    -- (cursor noted)
    cases h0 : (cuTop x == 0)
    · skip
      -- (cursor back)
      have h1' := hst
      simp only [h0, decide_true, decide_false, Bool.true_or, Bool.false_or, Bool.true_and, Bool.false_and, Bool.and_true, Bool.and_false, Bool.false_eq_true, if_true, if_false, Bool.or_true, Bool.or_false] at h1'
      -- R13 R14
      iterate 2 ((repeat first | refine awp_seq ?_ | refine awp_block ?_); (first | refine awp_region (by kernel_rfl) ?_); simp -implicitDefEqProofs (disch := (try simp only [sl]); try omega) only [sm, aNext, aSel, aNextL, aNextH, heldC, heldO, heldP, aWanted, isLight, aLight, apure, aread, bd, aload, look, aput, aHeavy, amark, aThen, aInBlock, aconvInt, abinO, abin, anil, aunop, aindexAddr, afieldAddr, afield, apart, aindex, aslice, loN, hiN, aextract, amakeIface, anilCheck, aminmax, amin2, amax2, ty, ↓reduceIte, Nat.reduceEqDiff, Nat.reduceAdd, Nat.reduceSub, Nat.reduceMul, Int.reduceLT, Int.reduceLE, Int.reduceNeg, Int.reduceToNat, reduceCtorEq, Nat.reduceBEq, Nat.reduceBNe, skipped, definite, Value.cells, am, mm, keep, h0])
      repeat first | refine awp_seq ?_ | refine awp_block ?_
      refine awp_if false rfl (by simp only [aeval_tmp, look, ↓reduceIte, Nat.reduceEqDiff]; try rfl) (fun h => absurd h (by decide)) (fun _ => ?_)
      -- skip R4
      iterate 2 ((repeat first | refine awp_seq ?_ | refine awp_block ?_); (first | refine awp_skip ?_ | refine awp_region (by kernel_rfl) ?_); simp -implicitDefEqProofs (disch := (try simp only [sl]); try omega) only [sm, aNext, aSel, aNextL, aNextH, heldC, heldO, heldP, aWanted, isLight, aLight, apure, aread, bd, aload, look, aput, aHeavy, amark, aThen, aInBlock, aconvInt, abinO, abin, anil, aunop, aindexAddr, afieldAddr, afield, apart, aindex, aslice, loN, hiN, aextract, amakeIface, anilCheck, aminmax, amin2, amax2, ty, ↓reduceIte, Nat.reduceEqDiff, Nat.reduceAdd, Nat.reduceSub, Nat.reduceMul, Int.reduceLT, Int.reduceLE, Int.reduceNeg, Int.reduceToNat, reduceCtorEq, Nat.reduceBEq, Nat.reduceBNe, skipped, definite, Value.cells, am, mm, keep, aint, hwk])
      -- loop end
      rw [← h1']
      refine ⟨j + 1, by omega, (by repeat first | exact Forgets.nil | refine Forgets.cons (by first | (simp only [look, ↓reduceIte, Nat.reduceEqDiff]; done) | (simp only [look, ↓reduceIte, Nat.reduceEqDiff]; rfl) | simp [look]) ?_), ?_⟩
      first | omega | exact ⟨rfl, by omega⟩ | exact ⟨rfl, by simp only []; omega⟩ | (simp only []; omega)
    by_cases h1 : md.toNat < (p * 4294967296).toNat
    · skip
      -- (cursor back)
      have h1' := hst
      simp only [h0, h1, decide_true, decide_false, Bool.true_or, Bool.false_or, Bool.true_and, Bool.false_and, Bool.and_true, Bool.and_false, Bool.false_eq_true, if_true, if_false, Bool.or_true, Bool.or_false] at h1'
      -- R13 R14
      iterate 2 ((repeat first | refine awp_seq ?_ | refine awp_block ?_); (first | refine awp_region (by kernel_rfl) ?_); simp -implicitDefEqProofs (disch := (try simp only [sl]); try omega) only [sm, aNext, aSel, aNextL, aNextH, heldC, heldO, heldP, aWanted, isLight, aLight, apure, aread, bd, aload, look, aput, aHeavy, amark, aThen, aInBlock, aconvInt, abinO, abin, anil, aunop, aindexAddr, afieldAddr, afield, apart, aindex, aslice, loN, hiN, aextract, amakeIface, anilCheck, aminmax, amin2, amax2, ty, ↓reduceIte, Nat.reduceEqDiff, Nat.reduceAdd, Nat.reduceSub, Nat.reduceMul, Int.reduceLT, Int.reduceLE, Int.reduceNeg, Int.reduceToNat, reduceCtorEq, Nat.reduceBEq, Nat.reduceBNe, skipped, definite, Value.cells, am, mm, keep, h0, h1])
      repeat first | refine awp_seq ?_ | refine awp_block ?_
      refine awp_if true rfl (by simp only [aeval_tmp, look, ↓reduceIte, Nat.reduceEqDiff]; try rfl) (fun _ => ?_) (fun h => absurd h (by decide))
      -- R15 R4
      iterate 2 ((repeat first | refine awp_seq ?_ | refine awp_block ?_); (first | refine awp_region (by kernel_rfl) ?_); simp -implicitDefEqProofs (disch := (try simp only [sl]); try omega) only [sm, aNext, aSel, aNextL, aNextH, heldC, heldO, heldP, aWanted, isLight, aLight, apure, aread, bd, aload, look, aput, aHeavy, amark, aThen, aInBlock, aconvInt, abinO, abin, anil, aunop, aindexAddr, afieldAddr, afield, apart, aindex, aslice, loN, hiN, aextract, amakeIface, anilCheck, aminmax, amin2, amax2, ty, ↓reduceIte, Nat.reduceEqDiff, Nat.reduceAdd, Nat.reduceSub, Nat.reduceMul, Int.reduceLT, Int.reduceLE, Int.reduceNeg, Int.reduceToNat, reduceCtorEq, Nat.reduceBEq, Nat.reduceBNe, skipped, definite, Value.cells, am, mm, keep, aint, hwk])
      -- loop end
      rw [← h1']
      refine ⟨j + 1, by omega, (by repeat first | exact Forgets.nil | refine Forgets.cons (by first | (simp only [look, ↓reduceIte, Nat.reduceEqDiff]; done) | (simp only [look, ↓reduceIte, Nat.reduceEqDiff]; rfl) | simp [look]) ?_), ?_⟩
      first | omega | exact ⟨rfl, by omega⟩ | exact ⟨rfl, by simp only []; omega⟩ | (simp only []; omega)
    cases h2 : (md == p * 4294967296)
    · skip
      -- (cursor back)
      have h1' := hst
      simp only [h0, h1, h2, decide_true, decide_false, Bool.true_or, Bool.false_or, Bool.true_and, Bool.false_and, Bool.and_true, Bool.and_false, Bool.false_eq_true, if_true, if_false, Bool.or_true, Bool.or_false] at h1'
      -- R13 R14
      iterate 2 ((repeat first | refine awp_seq ?_ | refine awp_block ?_); (first | refine awp_region (by kernel_rfl) ?_); simp -implicitDefEqProofs (disch := (try simp only [sl]); try omega) only [sm, aNext, aSel, aNextL, aNextH, heldC, heldO, heldP, aWanted, isLight, aLight, apure, aread, bd, aload, look, aput, aHeavy, amark, aThen, aInBlock, aconvInt, abinO, abin, anil, aunop, aindexAddr, afieldAddr, afield, apart, aindex, aslice, loN, hiN, aextract, amakeIface, anilCheck, aminmax, amin2, amax2, ty, ↓reduceIte, Nat.reduceEqDiff, Nat.reduceAdd, Nat.reduceSub, Nat.reduceMul, Int.reduceLT, Int.reduceLE, Int.reduceNeg, Int.reduceToNat, reduceCtorEq, Nat.reduceBEq, Nat.reduceBNe, skipped, definite, Value.cells, am, mm, keep, h0, h1, h2])
      repeat first | refine awp_seq ?_ | refine awp_block ?_
      refine awp_if false rfl (by simp only [aeval_tmp, look, ↓reduceIte, Nat.reduceEqDiff]; try rfl) (fun h => absurd h (by decide)) (fun _ => ?_)
      -- skip R4
      iterate 2 ((repeat first | refine awp_seq ?_ | refine awp_block ?_); (first | refine awp_skip ?_ | refine awp_region (by kernel_rfl) ?_); simp -implicitDefEqProofs (disch := (try simp only [sl]); try omega) only [sm, aNext, aSel, aNextL, aNextH, heldC, heldO, heldP, aWanted, isLight, aLight, apure, aread, bd, aload, look, aput, aHeavy, amark, aThen, aInBlock, aconvInt, abinO, abin, anil, aunop, aindexAddr, afieldAddr, afield, apart, aindex, aslice, loN, hiN, aextract, amakeIface, anilCheck, aminmax, amin2, amax2, ty, ↓reduceIte, Nat.reduceEqDiff, Nat.reduceAdd, Nat.reduceSub, Nat.reduceMul, Int.reduceLT, Int.reduceLE, Int.reduceNeg, Int.reduceToNat, reduceCtorEq, Nat.reduceBEq, Nat.reduceBNe, skipped, definite, Value.cells, am, mm, keep, aint, hwk])
      -- loop end
      rw [← h1']
      refine ⟨j + 1, by omega, (by repeat first | exact Forgets.nil | refine Forgets.cons (by first | (simp only [look, ↓reduceIte, Nat.reduceEqDiff]; done) | (simp only [look, ↓reduceIte, Nat.reduceEqDiff]; rfl) | simp [look]) ?_), ?_⟩
      first | omega | exact ⟨rfl, by omega⟩ | exact ⟨rfl, by simp only []; omega⟩ | (simp only []; omega)
    cases h3 : (timesL (timesL x x) x == 0)
    · skip
      -- (cursor back)
      have h1' := hst
      simp only [h0, h1, h2, h3, decide_true, decide_false, Bool.true_or, Bool.false_or, Bool.true_and, Bool.false_and, Bool.and_true, Bool.and_false, Bool.false_eq_true, if_true, if_false, Bool.or_true, Bool.or_false] at h1'
      -- R13 R14
      iterate 2 ((repeat first | refine awp_seq ?_ | refine awp_block ?_); (first | refine awp_region (by kernel_rfl) ?_); simp -implicitDefEqProofs (disch := (try simp only [sl]); try omega) only [sm, aNext, aSel, aNextL, aNextH, heldC, heldO, heldP, aWanted, isLight, aLight, apure, aread, bd, aload, look, aput, aHeavy, amark, aThen, aInBlock, aconvInt, abinO, abin, anil, aunop, aindexAddr, afieldAddr, afield, apart, aindex, aslice, loN, hiN, aextract, amakeIface, anilCheck, aminmax, amin2, amax2, ty, ↓reduceIte, Nat.reduceEqDiff, Nat.reduceAdd, Nat.reduceSub, Nat.reduceMul, Int.reduceLT, Int.reduceLE, Int.reduceNeg, Int.reduceToNat, reduceCtorEq, Nat.reduceBEq, Nat.reduceBNe, skipped, definite, Value.cells, am, mm, keep, h0, h1, h2, h3])
      repeat first | refine awp_seq ?_ | refine awp_block ?_
      refine awp_if false rfl (by simp only [aeval_tmp, look, ↓reduceIte, Nat.reduceEqDiff]; try rfl) (fun h => absurd h (by decide)) (fun _ => ?_)
      -- skip R4
      iterate 2 ((repeat first | refine awp_seq ?_ | refine awp_block ?_); (first | refine awp_skip ?_ | refine awp_region (by kernel_rfl) ?_); simp -implicitDefEqProofs (disch := (try simp only [sl]); try omega) only [sm, aNext, aSel, aNextL, aNextH, heldC, heldO, heldP, aWanted, isLight, aLight, apure, aread, bd, aload, look, aput, aHeavy, amark, aThen, aInBlock, aconvInt, abinO, abin, anil, aunop, aindexAddr, afieldAddr, afield, apart, aindex, aslice, loN, hiN, aextract, amakeIface, anilCheck, aminmax, amin2, amax2, ty, ↓reduceIte, Nat.reduceEqDiff, Nat.reduceAdd, Nat.reduceSub, Nat.reduceMul, Int.reduceLT, Int.reduceLE, Int.reduceNeg, Int.reduceToNat, reduceCtorEq, Nat.reduceBEq, Nat.reduceBNe, skipped, definite, Value.cells, am, mm, keep, aint, hwk])
      -- loop end
      rw [← h1']
      refine ⟨j + 1, by omega, (by repeat first | exact Forgets.nil | refine Forgets.cons (by first | (simp only [look, ↓reduceIte, Nat.reduceEqDiff]; done) | (simp only [look, ↓reduceIte, Nat.reduceEqDiff]; rfl) | simp [look]) ?_), ?_⟩
      first | omega | exact ⟨rfl, by omega⟩ | exact ⟨rfl, by simp only []; omega⟩ | (simp only []; omega)
    · skip
      -- (cursor back)
      have h1' := hst
      simp only [h0, h1, h2, h3, decide_true, decide_false, Bool.true_or, Bool.false_or, Bool.true_and, Bool.false_and, Bool.and_true, Bool.and_false, Bool.false_eq_true, if_true, if_false, Bool.or_true, Bool.or_false] at h1'
      -- R13 R14
      iterate 2 ((repeat first | refine awp_seq ?_ | refine awp_block ?_); (first | refine awp_region (by kernel_rfl) ?_); simp -implicitDefEqProofs (disch := (try simp only [sl]); try omega) only [sm, aNext, aSel, aNextL, aNextH, heldC, heldO, heldP, aWanted, isLight, aLight, apure, aread, bd, aload, look, aput, aHeavy, amark, aThen, aInBlock, aconvInt, abinO, abin, anil, aunop, aindexAddr, afieldAddr, afield, apart, aindex, aslice, loN, hiN, aextract, amakeIface, anilCheck, aminmax, amin2, amax2, ty, ↓reduceIte, Nat.reduceEqDiff, Nat.reduceAdd, Nat.reduceSub, Nat.reduceMul, Int.reduceLT, Int.reduceLE, Int.reduceNeg, Int.reduceToNat, reduceCtorEq, Nat.reduceBEq, Nat.reduceBNe, skipped, definite, Value.cells, am, mm, keep, h0, h1, h2, h3])
      repeat first | refine awp_seq ?_ | refine awp_block ?_
      refine awp_if true rfl (by simp only [aeval_tmp, look, ↓reduceIte, Nat.reduceEqDiff]; try rfl) (fun _ => ?_) (fun h => absurd h (by decide))
      -- R15 R4
      iterate 2 ((repeat first | refine awp_seq ?_ | refine awp_block ?_); (first | refine awp_region (by kernel_rfl) ?_); simp -implicitDefEqProofs (disch := (try simp only [sl]); try omega) only [sm, aNext, aSel, aNextL, aNextH, heldC, heldO, heldP, aWanted, isLight, aLight, apure, aread, bd, aload, look, aput, aHeavy, amark, aThen, aInBlock, aconvInt, abinO, abin, anil, aunop, aindexAddr, afieldAddr, afield, apart, aindex, aslice, loN, hiN, aextract, amakeIface, anilCheck, aminmax, amin2, amax2, ty, ↓reduceIte, Nat.reduceEqDiff, Nat.reduceAdd, Nat.reduceSub, Nat.reduceMul, Int.reduceLT, Int.reduceLE, Int.reduceNeg, Int.reduceToNat, reduceCtorEq, Nat.reduceBEq, Nat.reduceBNe, skipped, definite, Value.cells, am, mm, keep, aint, hwk])
      -- loop end
      rw [← h1']
      refine ⟨j + 1, by omega, (by repeat first | exact Forgets.nil | refine Forgets.cons (by first | (simp only [look, ↓reduceIte, Nat.reduceEqDiff]; done) | (simp only [look, ↓reduceIte, Nat.reduceEqDiff]; rfl) | simp [look]) ?_), ?_⟩
      first | omega | exact ⟨rfl, by omega⟩ | exact ⟨rfl, by simp only []; omega⟩ | (simp only []; omega)
  intro h
  try simp only [ge_iff_le, gt_iff_lt, decide_eq_true_eq, decide_eq_false_iff_not, Nat.not_lt, Int.not_lt, Nat.not_le, Int.not_le, Bool.and_eq_true, Bool.or_eq_true, Bool.or_eq_false_iff, bne_iff_ne, ne_eq, beq_iff_eq, bne_eq_false_iff_eq, beq_eq_false_iff_ne, Bool.not_eq_true, Bool.not_eq_false, Bool.not_eq_eq_eq_not, Bool.not_true, Bool.not_false, Nat.not_le, Int.ofNat_lt, Int.ofNat_le, Int.natCast_inj] at h
  obtain rfl : j = 35 := by omega
  -- exit R16
  iterate 2 ((repeat first | refine awp_seq ?_ | refine awp_block ?_); (first | refine awp_exit ?_ | refine awp_region (by kernel_rfl) ?_); simp -implicitDefEqProofs (disch := (try simp only [sl]); try omega) only [sm, aNext, aSel, aNextL, aNextH, heldC, heldO, heldP, aWanted, isLight, aLight, apure, aread, bd, aload, look, aput, aHeavy, amark, aThen, aInBlock, aconvInt, abinO, abin, anil, aunop, aindexAddr, afieldAddr, afield, apart, aindex, aslice, loN, hiN, aextract, amakeIface, anilCheck, aminmax, amin2, amax2, ty, ↓reduceIte, Nat.reduceEqDiff, Nat.reduceAdd, Nat.reduceSub, Nat.reduceMul, Int.reduceLT, Int.reduceLE, Int.reduceNeg, Int.reduceToNat, reduceCtorEq, Nat.reduceBEq, Nat.reduceBNe, skipped, definite, Value.cells, am, mm, keep])
  first | refine awp_ret ?_ | skip
  show ∃ v, aresults Try.prog Try.f61 _ _ = some v ∧ _
  rw [aresults_1 (r := .tmp 2) (by kernel_rfl)]
  simp -implicitDefEqProofs (disch := (try simp only [sl]); try omega) only [aresult, Option.some.injEq, exists_eq_left', sm, aNext, aSel, aNextL, aNextH, heldC, heldO, heldP, aWanted, isLight, aLight, apure, aread, bd, aload, look, aput, aHeavy, amark, aThen, aInBlock, aconvInt, abinO, abin, anil, aunop, aindexAddr, afieldAddr, afield, apart, aindex, aslice, loN, hiN, aextract, amakeIface, anilCheck, aminmax, amin2, amax2, ty, ↓reduceIte, Nat.reduceEqDiff, Nat.reduceAdd, Nat.reduceSub, Nat.reduceMul, Int.reduceLT, Int.reduceLE, Int.reduceNeg, Int.reduceToNat, reduceCtorEq, Nat.reduceBEq, Nat.reduceBNe, skipped, definite, Value.cells, am, mm, keep]
  rfl
end Go.Proofs.Ytelpdppdhimfoaa
