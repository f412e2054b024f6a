/- The statement MacEquals: walked. -/
import Derived.Test.YtjbockfjmomdjaaMal
namespace Go.Proofs.Ytjbockfjmomdjaa
open Go Go.RowKit
set_option linter.unusedSimpArgs false
set_option linter.unusedVariables false
set_option maxHeartbeats 8000000 in
theorem macequals_law : ALaw Try.prog 9 [22, 22] := by
  intro H vs hro hlen hv
  match vs, hlen with
  | [v0, v1], _ =>
  obtain ⟨⟨va, a⟩, hv1, ha, hla⟩ := arg22 (hv 0 _ v0 rfl rfl)
  obtain ⟨⟨vb, b⟩, hv2, hb, hlb⟩ := arg22 (hv 1 _ v1 rfl rfl)
  cases hv1
  cases hv2
  clear hv
  have ha : SL H va (a.map U8) := ha
  have hb : SL H vb (b.map U8) := hb
  have hla : a.length ≤ 9223372036854775807 := hla
  have hlb : b.length ≤ 9223372036854775807 := hlb
  have h5 := equal_calls vb va b a H hb ha hlb
  have hsym : decide (b = a) = decide (a = b) := by
    by_cases h : a = b
    · rw [h]
    · rw [decide_eq_false h, decide_eq_false (fun e => h e.symm)]
  rw [hsym] at h5
  refine acalls_of_body Try.func9 rfl Try.ntmps9 (by simp) ?_
  simp only [argsT, Nat.reduceAdd]
  -- R0 R1
  iterate 2 ((repeat first | refine awp_seq ?_ | refine awp_block ?_); (first | refine awp_region (by kernel_rfl) ?_); simp -implicitDefEqProofs (disch := (try simp only [sl]); try omega) only [sm, aNext, aSel, aNextL, aNextH, heldC, heldO, heldP, aWanted, isLight, aLight, apure, aread, bd, aload, look, aput, aHeavy, amark, aThen, aInBlock, aconvInt, abinO, abin, anil, aunop, aindexAddr, afieldAddr, afield, apart, aindex, aslice, loN, hiN, aextract, amakeIface, anilCheck, aminmax, amin2, amax2, ty, ↓reduceIte, Nat.reduceEqDiff, Nat.reduceAdd, Nat.reduceSub, Nat.reduceMul, Int.reduceLT, Int.reduceLE, Int.reduceNeg, Int.reduceToNat, reduceCtorEq, Nat.reduceBEq, Nat.reduceBNe, skipped, definite, Value.cells, am, mm, keep])
  -- calls mac.Equal, carlingref02.Same, mac.Equal, mac.Equal, mac.Equal, carlinglaw02.alive
  refine ACalls.mono (equal_calls va vb a b H ha hb (by assumption)) ?_
  rintro _ _ ⟨rfl, hHH⟩
  rw [hHH]
  clear hHH
  simp -implicitDefEqProofs (disch := (try simp only [sl]); try omega) only [sm, aNext, aSel, aNextL, aNextH, heldC, heldO, heldP, aWanted, isLight, aLight, apure, aread, bd, aload, look, aput, aHeavy, amark, aThen, aInBlock, aconvInt, abinO, abin, anil, aunop, aindexAddr, afieldAddr, afield, apart, aindex, aslice, loN, hiN, aextract, amakeIface, anilCheck, aminmax, amin2, amax2, ty, ↓reduceIte, Nat.reduceEqDiff, Nat.reduceAdd, Nat.reduceSub, Nat.reduceMul, Int.reduceLT, Int.reduceLE, Int.reduceNeg, Int.reduceToNat, reduceCtorEq, Nat.reduceBEq, Nat.reduceBNe, skipped, definite, Value.cells, am, mm, keep]
  refine ACalls.mono (same_calls va vb a b H ha hb (by assumption)) ?_
  rintro _ _ ⟨rfl, hHH⟩
  rw [hHH]
  clear hHH
  simp -implicitDefEqProofs (disch := (try simp only [sl]); try omega) only [sm, aNext, aSel, aNextL, aNextH, heldC, heldO, heldP, aWanted, isLight, aLight, apure, aread, bd, aload, look, aput, aHeavy, amark, aThen, aInBlock, aconvInt, abinO, abin, anil, aunop, aindexAddr, afieldAddr, afield, apart, aindex, aslice, loN, hiN, aextract, amakeIface, anilCheck, aminmax, amin2, amax2, ty, ↓reduceIte, Nat.reduceEqDiff, Nat.reduceAdd, Nat.reduceSub, Nat.reduceMul, Int.reduceLT, Int.reduceLE, Int.reduceNeg, Int.reduceToNat, reduceCtorEq, Nat.reduceBEq, Nat.reduceBNe, skipped, definite, Value.cells, am, mm, keep]
  refine ACalls.mono (equal_calls va va a a H ha ha (by assumption)) ?_
  rintro _ _ ⟨rfl, hHH⟩
  rw [hHH]
  clear hHH
  simp -implicitDefEqProofs (disch := (try simp only [sl]); try omega) only [sm, aNext, aSel, aNextL, aNextH, heldC, heldO, heldP, aWanted, isLight, aLight, apure, aread, bd, aload, look, aput, aHeavy, amark, aThen, aInBlock, aconvInt, abinO, abin, anil, aunop, aindexAddr, afieldAddr, afield, apart, aindex, aslice, loN, hiN, aextract, amakeIface, anilCheck, aminmax, amin2, amax2, ty, ↓reduceIte, Nat.reduceEqDiff, Nat.reduceAdd, Nat.reduceSub, Nat.reduceMul, Int.reduceLT, Int.reduceLE, Int.reduceNeg, Int.reduceToNat, reduceCtorEq, Nat.reduceBEq, Nat.reduceBNe, skipped, definite, Value.cells, am, mm, keep]
  refine ACalls.mono (equal_calls va vb a b H ha hb (by assumption)) ?_
  rintro _ _ ⟨rfl, hHH⟩
  rw [hHH]
  clear hHH
  simp -implicitDefEqProofs (disch := (try simp only [sl]); try omega) only [sm, aNext, aSel, aNextL, aNextH, heldC, heldO, heldP, aWanted, isLight, aLight, apure, aread, bd, aload, look, aput, aHeavy, amark, aThen, aInBlock, aconvInt, abinO, abin, anil, aunop, aindexAddr, afieldAddr, afield, apart, aindex, aslice, loN, hiN, aextract, amakeIface, anilCheck, aminmax, amin2, amax2, ty, ↓reduceIte, Nat.reduceEqDiff, Nat.reduceAdd, Nat.reduceSub, Nat.reduceMul, Int.reduceLT, Int.reduceLE, Int.reduceNeg, Int.reduceToNat, reduceCtorEq, Nat.reduceBEq, Nat.reduceBNe, skipped, definite, Value.cells, am, mm, keep]
  refine ACalls.mono (h5) ?_
  rintro _ _ ⟨rfl, hHH⟩
  rw [hHH]
  clear hHH
  simp -implicitDefEqProofs (disch := (try simp only [sl]); try omega) only [sm, aNext, aSel, aNextL, aNextH, heldC, heldO, heldP, aWanted, isLight, aLight, apure, aread, bd, aload, look, aput, aHeavy, amark, aThen, aInBlock, aconvInt, abinO, abin, anil, aunop, aindexAddr, afieldAddr, afield, apart, aindex, aslice, loN, hiN, aextract, amakeIface, anilCheck, aminmax, amin2, amax2, ty, ↓reduceIte, Nat.reduceEqDiff, Nat.reduceAdd, Nat.reduceSub, Nat.reduceMul, Int.reduceLT, Int.reduceLE, Int.reduceNeg, Int.reduceToNat, reduceCtorEq, Nat.reduceBEq, Nat.reduceBNe, skipped, definite, Value.cells, am, mm, keep]
  refine ACalls.mono (malive_calls _) ?_
  rintro _ H6 ⟨rfl, hE⟩
  try simp -implicitDefEqProofs (disch := (try simp only [sl]); try omega) only [sm, aNext, aSel, aNextL, aNextH, heldC, heldO, heldP, aWanted, isLight, aLight, apure, aread, bd, aload, look, aput, aHeavy, amark, aThen, aInBlock, aconvInt, abinO, abin, anil, aunop, aindexAddr, afieldAddr, afield, apart, aindex, aslice, loN, hiN, aextract, amakeIface, anilCheck, aminmax, amin2, amax2, ty, ↓reduceIte, Nat.reduceEqDiff, Nat.reduceAdd, Nat.reduceSub, Nat.reduceMul, Int.reduceLT, Int.reduceLE, Int.reduceNeg, Int.reduceToNat, reduceCtorEq, Nat.reduceBEq, Nat.reduceBNe, skipped, definite, Value.cells, am, mm, keep]
  -- auto: nothing
  first | refine awp_ret ?_ | skip
  show ∃ v, aresults Try.prog Try.f9 _ _ = some v ∧ _
  rw [aresults_1 (r := .tmp 4) (by kernel_rfl)]
  simp -implicitDefEqProofs (disch := (try simp only [sl]); try omega) only [aresult, Option.some.injEq, exists_eq_left', sm, aNext, aSel, aNextL, aNextH, heldC, heldO, heldP, aWanted, isLight, aLight, apure, aread, bd, aload, look, aput, aHeavy, amark, aThen, aInBlock, aconvInt, abinO, abin, anil, aunop, aindexAddr, afieldAddr, afield, apart, aindex, aslice, loN, hiN, aextract, amakeIface, anilCheck, aminmax, amin2, amax2, ty, ↓reduceIte, Nat.reduceEqDiff, Nat.reduceAdd, Nat.reduceSub, Nat.reduceMul, Int.reduceLT, Int.reduceLE, Int.reduceNeg, Int.reduceToNat, reduceCtorEq, Nat.reduceBEq, Nat.reduceBNe, skipped, definite, Value.cells, am, mm, keep]
end Go.Proofs.Ytjbockfjmomdjaa
