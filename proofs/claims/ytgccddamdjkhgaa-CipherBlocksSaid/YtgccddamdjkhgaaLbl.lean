/- The statement CipherBlocks: walked. -/
import Derived.Test.YtgccddamdjkhgaaCbl
import Derived.Test.YtgccddamdjkhgaaCal
import Derived.Test.YtgccddamdjkhgaaIn
namespace Go.Proofs.Ytgccddamdjkhgaa
open Go Go.RowKit
set_option linter.unusedSimpArgs false
set_option linter.unusedVariables false
set_option maxHeartbeats 4000000 in
theorem blocks_law : ALaw Try.prog 3 [22, 23, 25] := by
  intro H vs hro hlen hv
  match vs, hlen with
  | [v0, v1, v2], _ =>
  obtain ⟨ks, rfl, hk⟩ := arg22 (hv 0 _ v0 rfl rfl)
  obtain ⟨ns, rfl, hn⟩ := arg23 (hv 1 _ v1 rfl rfl)
  obtain ⟨ws, rfl, hw⟩ := arg25 (hv 2 _ v2 rfl rfl)
  clear hv
  have hk : ks.length = 32 := hk
  have hn : ns.length = 12 := hn
  match ws, hw with
  | [w0, w1, w2, w3, w4], _ =>
  simp only [c22, c23, c25]
  refine acalls_of_body Try.func3 rfl Try.ntmps3 (by simp) ?_
  simp only [argsT, Nat.reduceAdd]
  -- extras
  -- R0 R1 R2
  iterate 3 ((repeat first | refine awp_seq ?_ | refine awp_block ?_); (first | refine awp_region (by kernel_rfl) ?_ | refine awp_region_drawC (id := 2) [(0, []), (1, []), (2, []), (3, []), (5, []), (6, []), (7, []), (8, []), (4, [5, 6, 8]), (9, []), (10, []), (11, []), (12, []), (14, []), (13, [14]), (15, []), (16, []), (17, []), (18, []), (19, []), (20, []), (21, [])] mixed (by kernel_rfl) ?_); simp -implicitDefEqProofs (disch := (try simp only [sl]); try omega) only [sm, aNext, aSel, aNextL, aNextH, heldC, heldO, heldP, aWanted, isLight, aLight, apure, aread, bd, aload, look, aput, aHeavy, amark, aThen, aInBlock, aconvInt, abinO, abin, anil, aunop, aindexAddr, afieldAddr, afield, apart, aindex, aslice, loN, hiN, aextract, amakeIface, anilCheck, aminmax, amin2, amax2, ty, ↓reduceIte, Nat.reduceEqDiff, Nat.reduceAdd, Nat.reduceSub, Nat.reduceMul, Int.reduceLT, Int.reduceLE, Int.reduceNeg, Int.reduceToNat, reduceCtorEq, Nat.reduceBEq, Nat.reduceBNe, skipped, definite, Value.cells, am, mm, keep, hk, hn])
  -- calls cipher.Block, carlingref04.Block, cipher.Quarter, carlingref04.Quarter, carlinglaw04.alive
  generalize hH1 : H ++ [ABlk.own (ks.map U8)] ++ [ABlk.own (ns.map U8)] ++ [ABlk.own [U32 w0, U32 w1, U32 w2, U32 w3, U32 w4]] ++ [ABlk.own [Value.int .u32 ↑w0.toNat, Value.int .u32 ↑w1.toNat, Value.int .u32 ↑w2.toNat, Value.int .u32 ↑w3.toNat]] = H1
  have a0 : H1[H.length]? = some (.own (ks.map U8)) := by rw [← hH1]; exact (by simp -implicitDefEqProofs (disch := (try simp only [sl]); try omega) only [sm, aNext, aSel, aNextL, aNextH, heldC, heldO, heldP, aWanted, isLight, aLight, apure, aread, bd, aload, look, aput, aHeavy, amark, aThen, aInBlock, aconvInt, abinO, abin, anil, aunop, aindexAddr, afieldAddr, afield, apart, aindex, aslice, loN, hiN, aextract, amakeIface, anilCheck, aminmax, amin2, amax2, ty, ↓reduceIte, Nat.reduceEqDiff, Nat.reduceAdd, Nat.reduceSub, Nat.reduceMul, Int.reduceLT, Int.reduceLE, Int.reduceNeg, Int.reduceToNat, reduceCtorEq, Nat.reduceBEq, Nat.reduceBNe, skipped, definite, Value.cells, am, mm, keep])
  have a1 : H1[H.length + 1]? = some (.own (ns.map U8)) := by rw [← hH1]; exact (by simp -implicitDefEqProofs (disch := (try simp only [sl]); try omega) only [sm, aNext, aSel, aNextL, aNextH, heldC, heldO, heldP, aWanted, isLight, aLight, apure, aread, bd, aload, look, aput, aHeavy, amark, aThen, aInBlock, aconvInt, abinO, abin, anil, aunop, aindexAddr, afieldAddr, afield, apart, aindex, aslice, loN, hiN, aextract, amakeIface, anilCheck, aminmax, amin2, amax2, ty, ↓reduceIte, Nat.reduceEqDiff, Nat.reduceAdd, Nat.reduceSub, Nat.reduceMul, Int.reduceLT, Int.reduceLE, Int.reduceNeg, Int.reduceToNat, reduceCtorEq, Nat.reduceBEq, Nat.reduceBNe, skipped, definite, Value.cells, am, mm, keep])
  have a2 : H1[H.length + 2]? = some (.own [U32 w0, U32 w1, U32 w2, U32 w3, U32 w4]) := by rw [← hH1]; exact (by simp -implicitDefEqProofs (disch := (try simp only [sl]); try omega) only [sm, aNext, aSel, aNextL, aNextH, heldC, heldO, heldP, aWanted, isLight, aLight, apure, aread, bd, aload, look, aput, aHeavy, amark, aThen, aInBlock, aconvInt, abinO, abin, anil, aunop, aindexAddr, afieldAddr, afield, apart, aindex, aslice, loN, hiN, aextract, amakeIface, anilCheck, aminmax, amin2, amax2, ty, ↓reduceIte, Nat.reduceEqDiff, Nat.reduceAdd, Nat.reduceSub, Nat.reduceMul, Int.reduceLT, Int.reduceLE, Int.reduceNeg, Int.reduceToNat, reduceCtorEq, Nat.reduceBEq, Nat.reduceBNe, skipped, definite, Value.cells, am, mm, keep])
  have a3 : H1[H.length + 3]? = some (.own ([w0, w1, w2, w3].map U32)) := by rw [← hH1]; exact (by simp -implicitDefEqProofs (disch := (try simp only [sl]); try omega) only [sm, aNext, aSel, aNextL, aNextH, heldC, heldO, heldP, aWanted, isLight, aLight, apure, aread, bd, aload, look, aput, aHeavy, amark, aThen, aInBlock, aconvInt, abinO, abin, anil, aunop, aindexAddr, afieldAddr, afield, apart, aindex, aslice, loN, hiN, aextract, amakeIface, anilCheck, aminmax, amin2, amax2, ty, ↓reduceIte, Nat.reduceEqDiff, Nat.reduceAdd, Nat.reduceSub, Nat.reduceMul, Int.reduceLT, Int.reduceLE, Int.reduceNeg, Int.reduceToNat, reduceCtorEq, Nat.reduceBEq, Nat.reduceBNe, skipped, definite, Value.cells, am, mm, keep, List.map_cons, List.map_nil, U32])
  clear hH1
  have b0 := AH.cells_own a0
  have b1 := AH.cells_own a1
  have b2 := AH.cells_own a2
  have b3 := AH.cells_own a3
  refine ACalls.mono (block_calls ks ns w4 H1 hk hn) ?_
  rintro _ H2 ⟨rfl, e2⟩
  have c0 := e2.cells b0
  have c1 := e2.cells b1
  have c2 := e2.cells b2
  have c3 := e2.cells b3
  -- extras
  simp -implicitDefEqProofs (disch := (try simp only [sl]); try omega) only [sm, aNext, aSel, aNextL, aNextH, heldC, heldO, heldP, aWanted, isLight, aLight, apure, aread, bd, aload, look, aput, aHeavy, amark, aThen, aInBlock, aconvInt, abinO, abin, anil, aunop, aindexAddr, afieldAddr, afield, apart, aindex, aslice, loN, hiN, aextract, amakeIface, anilCheck, aminmax, amin2, amax2, ty, ↓reduceIte, Nat.reduceEqDiff, Nat.reduceAdd, Nat.reduceSub, Nat.reduceMul, Int.reduceLT, Int.reduceLE, Int.reduceNeg, Int.reduceToNat, reduceCtorEq, Nat.reduceBEq, Nat.reduceBNe, skipped, definite, Value.cells, am, mm, keep, hk, hn, b0, b1, b2, b3, c0, c1, c2, c3]
  refine ACalls.mono (refblock_calls ks ns w4 H2 hk hn) ?_
  rintro _ H3 ⟨rfl, e3⟩
  have d3 := e3.cells c3
  have hself : ∀ l : List UInt8, l.length = 64 → aeqAgg Try.prog 27 (l.map U8).toArray (l.map U8).toArray = some true := fun l hl => by
    rw [aeq_words (n := 64) (e := 5) (k := .u8) (by kernel_rfl) (by kernel_rfl) (by kernel_rfl) (by kernel_rfl) (by kernel_rfl) _ wf8 inj8 _ _ hl hl]; simp
  have hbb := hself _ (blockB_length ks ns w4)
  generalize blockB ks ns w4 = bb' at *
  simp -implicitDefEqProofs (disch := (try simp only [sl]); try omega) only [sm, aNext, aSel, aNextL, aNextH, heldC, heldO, heldP, aWanted, isLight, aLight, apure, aread, bd, aload, look, aput, aHeavy, amark, aThen, aInBlock, aconvInt, abinO, abin, anil, aunop, aindexAddr, afieldAddr, afield, apart, aindex, aslice, loN, hiN, aextract, amakeIface, anilCheck, aminmax, amin2, amax2, ty, ↓reduceIte, Nat.reduceEqDiff, Nat.reduceAdd, Nat.reduceSub, Nat.reduceMul, Int.reduceLT, Int.reduceLE, Int.reduceNeg, Int.reduceToNat, reduceCtorEq, Nat.reduceBEq, Nat.reduceBNe, skipped, definite, Value.cells, am, mm, keep, hk, hn, b0, b1, b2, b3, c0, c1, c2, c3, hbb, d3]
  refine ACalls.mono (quarter_calls [w0, w1, w2, w3] rfl _) ?_
  rintro _ H4 ⟨rfl, e4⟩
  have f3 := e4.cells d3
  simp -implicitDefEqProofs (disch := (try simp only [sl]); try omega) only [sm, aNext, aSel, aNextL, aNextH, heldC, heldO, heldP, aWanted, isLight, aLight, apure, aread, bd, aload, look, aput, aHeavy, amark, aThen, aInBlock, aconvInt, abinO, abin, anil, aunop, aindexAddr, afieldAddr, afield, apart, aindex, aslice, loN, hiN, aextract, amakeIface, anilCheck, aminmax, amin2, amax2, ty, ↓reduceIte, Nat.reduceEqDiff, Nat.reduceAdd, Nat.reduceSub, Nat.reduceMul, Int.reduceLT, Int.reduceLE, Int.reduceNeg, Int.reduceToNat, reduceCtorEq, Nat.reduceBEq, Nat.reduceBNe, skipped, definite, Value.cells, am, mm, keep, hk, hn, b0, b1, b2, b3, c0, c1, c2, c3, f3, d3]
  refine ACalls.mono (refquarter_calls [w0, w1, w2, w3] rfl _) ?_
  rintro _ H5 ⟨rfl, e5⟩
  have hql := qr_length [w0, w1, w2, w3]
  have hqq : aeqAgg Try.prog 26 ((qr [w0, w1, w2, w3]).map U32).toArray ((qr [w0, w1, w2, w3]).map U32).toArray = some true := by
    rw [aeq_words (n := 4) (e := 24) (k := .u32) (by kernel_rfl) (by kernel_rfl) (by kernel_rfl) (by kernel_rfl) (by kernel_rfl) _ wf32 inj32 _ _ hql hql]; simp
  generalize qr [w0, w1, w2, w3] = qs at *
  simp -implicitDefEqProofs (disch := (try simp only [sl]); try omega) only [sm, aNext, aSel, aNextL, aNextH, heldC, heldO, heldP, aWanted, isLight, aLight, apure, aread, bd, aload, look, aput, aHeavy, amark, aThen, aInBlock, aconvInt, abinO, abin, anil, aunop, aindexAddr, afieldAddr, afield, apart, aindex, aslice, loN, hiN, aextract, amakeIface, anilCheck, aminmax, amin2, amax2, ty, ↓reduceIte, Nat.reduceEqDiff, Nat.reduceAdd, Nat.reduceSub, Nat.reduceMul, Int.reduceLT, Int.reduceLE, Int.reduceNeg, Int.reduceToNat, reduceCtorEq, Nat.reduceBEq, Nat.reduceBNe, skipped, definite, Value.cells, am, mm, keep, hk, hn, b0, b1, b2, b3, c0, c1, c2, c3, hqq]
  refine ACalls.mono (alive_calls _) ?_
  rintro _ H6 ⟨rfl, e6⟩
  simp -implicitDefEqProofs (disch := (try simp only [sl]); try omega) only [sm, aNext, aSel, aNextL, aNextH, heldC, heldO, heldP, aWanted, isLight, aLight, apure, aread, bd, aload, look, aput, aHeavy, amark, aThen, aInBlock, aconvInt, abinO, abin, anil, aunop, aindexAddr, afieldAddr, afield, apart, aindex, aslice, loN, hiN, aextract, amakeIface, anilCheck, aminmax, amin2, amax2, ty, ↓reduceIte, Nat.reduceEqDiff, Nat.reduceAdd, Nat.reduceSub, Nat.reduceMul, Int.reduceLT, Int.reduceLE, Int.reduceNeg, Int.reduceToNat, reduceCtorEq, Nat.reduceBEq, Nat.reduceBNe, skipped, definite, Value.cells, am, mm, keep, hk, hn, b0, b1, b2, b3, c0, c1, c2, c3]
  first | refine awp_ret ?_ | skip
  show ∃ v, aresults Try.prog Try.f3 _ _ = some v ∧ _
  rw [aresults_1 (r := .tmp 6) (by kernel_rfl)]
  simp -implicitDefEqProofs (disch := (try simp only [sl]); try omega) only [aresult, Option.some.injEq, exists_eq_left', sm, aNext, aSel, aNextL, aNextH, heldC, heldO, heldP, aWanted, isLight, aLight, apure, aread, bd, aload, look, aput, aHeavy, amark, aThen, aInBlock, aconvInt, abinO, abin, anil, aunop, aindexAddr, afieldAddr, afield, apart, aindex, aslice, loN, hiN, aextract, amakeIface, anilCheck, aminmax, amin2, amax2, ty, ↓reduceIte, Nat.reduceEqDiff, Nat.reduceAdd, Nat.reduceSub, Nat.reduceMul, Int.reduceLT, Int.reduceLE, Int.reduceNeg, Int.reduceToNat, reduceCtorEq, Nat.reduceBEq, Nat.reduceBNe, skipped, definite, Value.cells, am, mm, keep, hk, hn, b0, b1, b2, b3, c0, c1, c2, c3]
end Go.Proofs.Ytgccddamdjkhgaa
