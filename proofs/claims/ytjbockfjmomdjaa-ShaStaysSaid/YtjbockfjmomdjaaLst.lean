/- The statement ShaStays: walked. -/
import Derived.Test.YtjbockfjmomdjaaLsh
namespace Go.Proofs.Ytjbockfjmomdjaa
open Go Go.RowKit
set_option linter.unusedSimpArgs false
set_option linter.unusedVariables false
theorem two_parts {H : AH} {v w : Value} {a b : List UInt8} (h : SL H v (a.map U8)) (k : SL H w (b.map U8)) : Parts (H ++ [.own [v, w]]) (.slice (some ⟨H.length, 0, none⟩) 2 1) [(v, a), (w, b)] := by
  refine ⟨(OS.new (b := 0) (vs := [v, w]) (Nat.zero_le _) rfl).sl, fun p hp => ?_⟩
  simp only [List.mem_cons, List.not_mem_nil, or_false] at hp
  rcases hp with rfl | rfl
  · exact h.mono (Ext.push _ _)
  · exact k.mono (Ext.push _ _)
theorem allB_two (v w : Value) (a b : List UInt8) : allB [(v, a), (w, b)] = a ++ b := by simp [allB]
set_option maxHeartbeats 8000000 in
theorem stays_law : ALaw Try.prog 4 [22, 22, 22] := by
  intro H vs hro hlen hv
  match vs, hlen with
  | [v0, v1, v2], _ =>
  obtain ⟨⟨va, a⟩, hv1, ha, -⟩ := arg22 (hv 0 _ v0 rfl rfl)
  obtain ⟨⟨vb, b⟩, hv2, hb, -⟩ := arg22 (hv 1 _ v1 rfl rfl)
  obtain ⟨⟨vc, c⟩, hv3, hc, -⟩ := arg22 (hv 2 _ v2 rfl rfl)
  cases hv1
  cases hv2
  cases hv3
  clear hv
  have ha : SL H va (a.map U8) := ha
  have hb : SL H vb (b.map U8) := hb
  have hc : SL H vc (c.map U8) := hc
  have hfa := sfar_calls va _ _ ha
  have hfb := sfar_calls vb _ _ hb
  have hfc := sfar_calls vc _ _ hc
  rw [List.length_map] at hfa hfb hfc
  refine acalls_of_body Try.func4 rfl Try.ntmps4 (by simp) ?_
  simp only [argsT, Nat.reduceAdd]
  -- R0 R1
  iterate 2 ((repeat first | refine awp_seq ?_ | refine awp_block ?_); (first | refine awp_region (by kernel_rfl) ?_); simp -implicitDefEqProofs (disch := (try simp only [sl]); try omega) only [sm, aNext, aSel, aNextL, aNextH, heldC, heldO, heldP, aWanted, isLight, aLight, apure, aread, bd, aload, look, aput, aHeavy, amark, aThen, aInBlock, aconvInt, abinO, abin, anil, aunop, aindexAddr, afieldAddr, afield, apart, aindex, aslice, loN, hiN, aextract, amakeIface, anilCheck, aminmax, amin2, amax2, ty, ↓reduceIte, Nat.reduceEqDiff, Nat.reduceAdd, Nat.reduceSub, Nat.reduceMul, Int.reduceLT, Int.reduceLE, Int.reduceNeg, Int.reduceToNat, reduceCtorEq, Nat.reduceBEq, Nat.reduceBNe, skipped, definite, Value.cells, am, mm, keep])
  -- calls carlinglaw01.far, carlinglaw01.far, carlinglaw01.far
  -- (cursor noted)
  by_cases la : a.length > 600
  · -- extras
    refine ACalls.mono (hfa) ?_
    rintro _ _ ⟨rfl, hHH⟩
    rw [hHH]
    clear hHH
    simp -implicitDefEqProofs (disch := (try simp only [sl]); try omega) only [sm, aNext, aSel, aNextL, aNextH, heldC, heldO, heldP, aWanted, isLight, aLight, apure, aread, bd, aload, look, aput, aHeavy, amark, aThen, aInBlock, aconvInt, abinO, abin, anil, aunop, aindexAddr, afieldAddr, afield, apart, aindex, aslice, loN, hiN, aextract, amakeIface, anilCheck, aminmax, amin2, amax2, ty, ↓reduceIte, Nat.reduceEqDiff, Nat.reduceAdd, Nat.reduceSub, Nat.reduceMul, Int.reduceLT, Int.reduceLE, Int.reduceNeg, Int.reduceToNat, reduceCtorEq, Nat.reduceBEq, Nat.reduceBNe, skipped, definite, Value.cells, am, mm, keep, la]
    -- (the other calls of the region are not made)
    repeat first | refine awp_seq ?_ | refine awp_block ?_
    refine awp_if true rfl (by simp only [aeval_tmp, look, ↓reduceIte, Nat.reduceEqDiff]; try rfl) (fun _ => ?_) (fun h => absurd h (by decide))
    -- R2
    iterate 1 ((repeat first | refine awp_seq ?_ | refine awp_block ?_); (first | refine awp_region (by kernel_rfl) ?_); simp -implicitDefEqProofs (disch := (try simp only [sl]); try omega) only [sm, aNext, aSel, aNextL, aNextH, heldC, heldO, heldP, aWanted, isLight, aLight, apure, aread, bd, aload, look, aput, aHeavy, amark, aThen, aInBlock, aconvInt, abinO, abin, anil, aunop, aindexAddr, afieldAddr, afield, apart, aindex, aslice, loN, hiN, aextract, amakeIface, anilCheck, aminmax, amin2, amax2, ty, ↓reduceIte, Nat.reduceEqDiff, Nat.reduceAdd, Nat.reduceSub, Nat.reduceMul, Int.reduceLT, Int.reduceLE, Int.reduceNeg, Int.reduceToNat, reduceCtorEq, Nat.reduceBEq, Nat.reduceBNe, skipped, definite, Value.cells, am, mm, keep, la])
    -- calls carlinglaw01.alive
    refine ACalls.mono (salive_calls _) ?_
    rintro _ H2 ⟨rfl, hE⟩
    try simp -implicitDefEqProofs (disch := (try simp only [sl]); try omega) only [sm, aNext, aSel, aNextL, aNextH, heldC, heldO, heldP, aWanted, isLight, aLight, apure, aread, bd, aload, look, aput, aHeavy, amark, aThen, aInBlock, aconvInt, abinO, abin, anil, aunop, aindexAddr, afieldAddr, afield, apart, aindex, aslice, loN, hiN, aextract, amakeIface, anilCheck, aminmax, amin2, amax2, ty, ↓reduceIte, Nat.reduceEqDiff, Nat.reduceAdd, Nat.reduceSub, Nat.reduceMul, Int.reduceLT, Int.reduceLE, Int.reduceNeg, Int.reduceToNat, reduceCtorEq, Nat.reduceBEq, Nat.reduceBNe, skipped, definite, Value.cells, am, mm, keep, la]
    -- auto: nothing
    first | refine awp_ret ?_ | skip
    show ∃ v, aresults Try.prog Try.f4 _ _ = some v ∧ _
    rw [aresults_1 (r := .tmp 6) (by kernel_rfl)]
    simp -implicitDefEqProofs (disch := (try simp only [sl]); try omega) only [aresult, Option.some.injEq, exists_eq_left', sm, aNext, aSel, aNextL, aNextH, heldC, heldO, heldP, aWanted, isLight, aLight, apure, aread, bd, aload, look, aput, aHeavy, amark, aThen, aInBlock, aconvInt, abinO, abin, anil, aunop, aindexAddr, afieldAddr, afield, apart, aindex, aslice, loN, hiN, aextract, amakeIface, anilCheck, aminmax, amin2, amax2, ty, ↓reduceIte, Nat.reduceEqDiff, Nat.reduceAdd, Nat.reduceSub, Nat.reduceMul, Int.reduceLT, Int.reduceLE, Int.reduceNeg, Int.reduceToNat, reduceCtorEq, Nat.reduceBEq, Nat.reduceBNe, skipped, definite, Value.cells, am, mm, keep, la]
  by_cases lb : b.length > 600
  · -- (cursor back)
    -- extras
    refine ACalls.mono (hfa) ?_
    rintro _ _ ⟨rfl, hHH⟩
    rw [hHH]
    clear hHH
    simp -implicitDefEqProofs (disch := (try simp only [sl]); try omega) only [sm, aNext, aSel, aNextL, aNextH, heldC, heldO, heldP, aWanted, isLight, aLight, apure, aread, bd, aload, look, aput, aHeavy, amark, aThen, aInBlock, aconvInt, abinO, abin, anil, aunop, aindexAddr, afieldAddr, afield, apart, aindex, aslice, loN, hiN, aextract, amakeIface, anilCheck, aminmax, amin2, amax2, ty, ↓reduceIte, Nat.reduceEqDiff, Nat.reduceAdd, Nat.reduceSub, Nat.reduceMul, Int.reduceLT, Int.reduceLE, Int.reduceNeg, Int.reduceToNat, reduceCtorEq, Nat.reduceBEq, Nat.reduceBNe, skipped, definite, Value.cells, am, mm, keep, la, lb]
    refine ACalls.mono (hfb) ?_
    rintro _ _ ⟨rfl, hHH⟩
    rw [hHH]
    clear hHH
    simp -implicitDefEqProofs (disch := (try simp only [sl]); try omega) only [sm, aNext, aSel, aNextL, aNextH, heldC, heldO, heldP, aWanted, isLight, aLight, apure, aread, bd, aload, look, aput, aHeavy, amark, aThen, aInBlock, aconvInt, abinO, abin, anil, aunop, aindexAddr, afieldAddr, afield, apart, aindex, aslice, loN, hiN, aextract, amakeIface, anilCheck, aminmax, amin2, amax2, ty, ↓reduceIte, Nat.reduceEqDiff, Nat.reduceAdd, Nat.reduceSub, Nat.reduceMul, Int.reduceLT, Int.reduceLE, Int.reduceNeg, Int.reduceToNat, reduceCtorEq, Nat.reduceBEq, Nat.reduceBNe, skipped, definite, Value.cells, am, mm, keep, la, lb]
    -- (the other calls of the region are not made)
    repeat first | refine awp_seq ?_ | refine awp_block ?_
    refine awp_if true rfl (by simp only [aeval_tmp, look, ↓reduceIte, Nat.reduceEqDiff]; try rfl) (fun _ => ?_) (fun h => absurd h (by decide))
    -- R2
    iterate 1 ((repeat first | refine awp_seq ?_ | refine awp_block ?_); (first | refine awp_region (by kernel_rfl) ?_); simp -implicitDefEqProofs (disch := (try simp only [sl]); try omega) only [sm, aNext, aSel, aNextL, aNextH, heldC, heldO, heldP, aWanted, isLight, aLight, apure, aread, bd, aload, look, aput, aHeavy, amark, aThen, aInBlock, aconvInt, abinO, abin, anil, aunop, aindexAddr, afieldAddr, afield, apart, aindex, aslice, loN, hiN, aextract, amakeIface, anilCheck, aminmax, amin2, amax2, ty, ↓reduceIte, Nat.reduceEqDiff, Nat.reduceAdd, Nat.reduceSub, Nat.reduceMul, Int.reduceLT, Int.reduceLE, Int.reduceNeg, Int.reduceToNat, reduceCtorEq, Nat.reduceBEq, Nat.reduceBNe, skipped, definite, Value.cells, am, mm, keep, la, lb])
    -- calls carlinglaw01.alive
    refine ACalls.mono (salive_calls _) ?_
    rintro _ H2 ⟨rfl, hE⟩
    try simp -implicitDefEqProofs (disch := (try simp only [sl]); try omega) only [sm, aNext, aSel, aNextL, aNextH, heldC, heldO, heldP, aWanted, isLight, aLight, apure, aread, bd, aload, look, aput, aHeavy, amark, aThen, aInBlock, aconvInt, abinO, abin, anil, aunop, aindexAddr, afieldAddr, afield, apart, aindex, aslice, loN, hiN, aextract, amakeIface, anilCheck, aminmax, amin2, amax2, ty, ↓reduceIte, Nat.reduceEqDiff, Nat.reduceAdd, Nat.reduceSub, Nat.reduceMul, Int.reduceLT, Int.reduceLE, Int.reduceNeg, Int.reduceToNat, reduceCtorEq, Nat.reduceBEq, Nat.reduceBNe, skipped, definite, Value.cells, am, mm, keep, la, lb]
    -- auto: nothing
    first | refine awp_ret ?_ | skip
    show ∃ v, aresults Try.prog Try.f4 _ _ = some v ∧ _
    rw [aresults_1 (r := .tmp 6) (by kernel_rfl)]
    simp -implicitDefEqProofs (disch := (try simp only [sl]); try omega) only [aresult, Option.some.injEq, exists_eq_left', sm, aNext, aSel, aNextL, aNextH, heldC, heldO, heldP, aWanted, isLight, aLight, apure, aread, bd, aload, look, aput, aHeavy, amark, aThen, aInBlock, aconvInt, abinO, abin, anil, aunop, aindexAddr, afieldAddr, afield, apart, aindex, aslice, loN, hiN, aextract, amakeIface, anilCheck, aminmax, amin2, amax2, ty, ↓reduceIte, Nat.reduceEqDiff, Nat.reduceAdd, Nat.reduceSub, Nat.reduceMul, Int.reduceLT, Int.reduceLE, Int.reduceNeg, Int.reduceToNat, reduceCtorEq, Nat.reduceBEq, Nat.reduceBNe, skipped, definite, Value.cells, am, mm, keep, la, lb]
  by_cases lc : c.length > 600
  · -- (cursor back)
    -- extras
    refine ACalls.mono (hfa) ?_
    rintro _ _ ⟨rfl, hHH⟩
    rw [hHH]
    clear hHH
    simp -implicitDefEqProofs (disch := (try simp only [sl]); try omega) only [sm, aNext, aSel, aNextL, aNextH, heldC, heldO, heldP, aWanted, isLight, aLight, apure, aread, bd, aload, look, aput, aHeavy, amark, aThen, aInBlock, aconvInt, abinO, abin, anil, aunop, aindexAddr, afieldAddr, afield, apart, aindex, aslice, loN, hiN, aextract, amakeIface, anilCheck, aminmax, amin2, amax2, ty, ↓reduceIte, Nat.reduceEqDiff, Nat.reduceAdd, Nat.reduceSub, Nat.reduceMul, Int.reduceLT, Int.reduceLE, Int.reduceNeg, Int.reduceToNat, reduceCtorEq, Nat.reduceBEq, Nat.reduceBNe, skipped, definite, Value.cells, am, mm, keep, la, lb, lc]
    refine ACalls.mono (hfb) ?_
    rintro _ _ ⟨rfl, hHH⟩
    rw [hHH]
    clear hHH
    simp -implicitDefEqProofs (disch := (try simp only [sl]); try omega) only [sm, aNext, aSel, aNextL, aNextH, heldC, heldO, heldP, aWanted, isLight, aLight, apure, aread, bd, aload, look, aput, aHeavy, amark, aThen, aInBlock, aconvInt, abinO, abin, anil, aunop, aindexAddr, afieldAddr, afield, apart, aindex, aslice, loN, hiN, aextract, amakeIface, anilCheck, aminmax, amin2, amax2, ty, ↓reduceIte, Nat.reduceEqDiff, Nat.reduceAdd, Nat.reduceSub, Nat.reduceMul, Int.reduceLT, Int.reduceLE, Int.reduceNeg, Int.reduceToNat, reduceCtorEq, Nat.reduceBEq, Nat.reduceBNe, skipped, definite, Value.cells, am, mm, keep, la, lb, lc]
    refine ACalls.mono (hfc) ?_
    rintro _ _ ⟨rfl, hHH⟩
    rw [hHH]
    clear hHH
    simp -implicitDefEqProofs (disch := (try simp only [sl]); try omega) only [sm, aNext, aSel, aNextL, aNextH, heldC, heldO, heldP, aWanted, isLight, aLight, apure, aread, bd, aload, look, aput, aHeavy, amark, aThen, aInBlock, aconvInt, abinO, abin, anil, aunop, aindexAddr, afieldAddr, afield, apart, aindex, aslice, loN, hiN, aextract, amakeIface, anilCheck, aminmax, amin2, amax2, ty, ↓reduceIte, Nat.reduceEqDiff, Nat.reduceAdd, Nat.reduceSub, Nat.reduceMul, Int.reduceLT, Int.reduceLE, Int.reduceNeg, Int.reduceToNat, reduceCtorEq, Nat.reduceBEq, Nat.reduceBNe, skipped, definite, Value.cells, am, mm, keep, la, lb, lc]
    repeat first | refine awp_seq ?_ | refine awp_block ?_
    refine awp_if true rfl (by simp only [aeval_tmp, look, ↓reduceIte, Nat.reduceEqDiff]; try rfl) (fun _ => ?_) (fun h => absurd h (by decide))
    -- R2
    iterate 1 ((repeat first | refine awp_seq ?_ | refine awp_block ?_); (first | refine awp_region (by kernel_rfl) ?_); simp -implicitDefEqProofs (disch := (try simp only [sl]); try omega) only [sm, aNext, aSel, aNextL, aNextH, heldC, heldO, heldP, aWanted, isLight, aLight, apure, aread, bd, aload, look, aput, aHeavy, amark, aThen, aInBlock, aconvInt, abinO, abin, anil, aunop, aindexAddr, afieldAddr, afield, apart, aindex, aslice, loN, hiN, aextract, amakeIface, anilCheck, aminmax, amin2, amax2, ty, ↓reduceIte, Nat.reduceEqDiff, Nat.reduceAdd, Nat.reduceSub, Nat.reduceMul, Int.reduceLT, Int.reduceLE, Int.reduceNeg, Int.reduceToNat, reduceCtorEq, Nat.reduceBEq, Nat.reduceBNe, skipped, definite, Value.cells, am, mm, keep, la, lb, lc])
    -- calls carlinglaw01.alive
    refine ACalls.mono (salive_calls _) ?_
    rintro _ H2 ⟨rfl, hE⟩
    try simp -implicitDefEqProofs (disch := (try simp only [sl]); try omega) only [sm, aNext, aSel, aNextL, aNextH, heldC, heldO, heldP, aWanted, isLight, aLight, apure, aread, bd, aload, look, aput, aHeavy, amark, aThen, aInBlock, aconvInt, abinO, abin, anil, aunop, aindexAddr, afieldAddr, afield, apart, aindex, aslice, loN, hiN, aextract, amakeIface, anilCheck, aminmax, amin2, amax2, ty, ↓reduceIte, Nat.reduceEqDiff, Nat.reduceAdd, Nat.reduceSub, Nat.reduceMul, Int.reduceLT, Int.reduceLE, Int.reduceNeg, Int.reduceToNat, reduceCtorEq, Nat.reduceBEq, Nat.reduceBNe, skipped, definite, Value.cells, am, mm, keep, la, lb, lc]
    -- auto: nothing
    first | refine awp_ret ?_ | skip
    show ∃ v, aresults Try.prog Try.f4 _ _ = some v ∧ _
    rw [aresults_1 (r := .tmp 6) (by kernel_rfl)]
    simp -implicitDefEqProofs (disch := (try simp only [sl]); try omega) only [aresult, Option.some.injEq, exists_eq_left', sm, aNext, aSel, aNextL, aNextH, heldC, heldO, heldP, aWanted, isLight, aLight, apure, aread, bd, aload, look, aput, aHeavy, amark, aThen, aInBlock, aconvInt, abinO, abin, anil, aunop, aindexAddr, afieldAddr, afield, apart, aindex, aslice, loN, hiN, aextract, amakeIface, anilCheck, aminmax, amin2, amax2, ty, ↓reduceIte, Nat.reduceEqDiff, Nat.reduceAdd, Nat.reduceSub, Nat.reduceMul, Int.reduceLT, Int.reduceLE, Int.reduceNeg, Int.reduceToNat, reduceCtorEq, Nat.reduceBEq, Nat.reduceBNe, skipped, definite, Value.cells, am, mm, keep, la, lb, lc]
  -- (cursor back)
  -- extras
  refine ACalls.mono (hfa) ?_
  rintro _ _ ⟨rfl, hHH⟩
  rw [hHH]
  clear hHH
  simp -implicitDefEqProofs (disch := (try simp only [sl]); try omega) only [sm, aNext, aSel, aNextL, aNextH, heldC, heldO, heldP, aWanted, isLight, aLight, apure, aread, bd, aload, look, aput, aHeavy, amark, aThen, aInBlock, aconvInt, abinO, abin, anil, aunop, aindexAddr, afieldAddr, afield, apart, aindex, aslice, loN, hiN, aextract, amakeIface, anilCheck, aminmax, amin2, amax2, ty, ↓reduceIte, Nat.reduceEqDiff, Nat.reduceAdd, Nat.reduceSub, Nat.reduceMul, Int.reduceLT, Int.reduceLE, Int.reduceNeg, Int.reduceToNat, reduceCtorEq, Nat.reduceBEq, Nat.reduceBNe, skipped, definite, Value.cells, am, mm, keep, la, lb, lc]
  refine ACalls.mono (hfb) ?_
  rintro _ _ ⟨rfl, hHH⟩
  rw [hHH]
  clear hHH
  simp -implicitDefEqProofs (disch := (try simp only [sl]); try omega) only [sm, aNext, aSel, aNextL, aNextH, heldC, heldO, heldP, aWanted, isLight, aLight, apure, aread, bd, aload, look, aput, aHeavy, amark, aThen, aInBlock, aconvInt, abinO, abin, anil, aunop, aindexAddr, afieldAddr, afield, apart, aindex, aslice, loN, hiN, aextract, amakeIface, anilCheck, aminmax, amin2, amax2, ty, ↓reduceIte, Nat.reduceEqDiff, Nat.reduceAdd, Nat.reduceSub, Nat.reduceMul, Int.reduceLT, Int.reduceLE, Int.reduceNeg, Int.reduceToNat, reduceCtorEq, Nat.reduceBEq, Nat.reduceBNe, skipped, definite, Value.cells, am, mm, keep, la, lb, lc]
  refine ACalls.mono (hfc) ?_
  rintro _ _ ⟨rfl, hHH⟩
  rw [hHH]
  clear hHH
  simp -implicitDefEqProofs (disch := (try simp only [sl]); try omega) only [sm, aNext, aSel, aNextL, aNextH, heldC, heldO, heldP, aWanted, isLight, aLight, apure, aread, bd, aload, look, aput, aHeavy, amark, aThen, aInBlock, aconvInt, abinO, abin, anil, aunop, aindexAddr, afieldAddr, afield, apart, aindex, aslice, loN, hiN, aextract, amakeIface, anilCheck, aminmax, amin2, amax2, ty, ↓reduceIte, Nat.reduceEqDiff, Nat.reduceAdd, Nat.reduceSub, Nat.reduceMul, Int.reduceLT, Int.reduceLE, Int.reduceNeg, Int.reduceToNat, reduceCtorEq, Nat.reduceBEq, Nat.reduceBNe, skipped, definite, Value.cells, am, mm, keep, la, lb, lc]
  repeat first | refine awp_seq ?_ | refine awp_block ?_
  refine awp_if false rfl (by simp only [aeval_tmp, look, ↓reduceIte, Nat.reduceEqDiff]; try rfl) (fun h => absurd h (by decide)) (fun _ => ?_)
  -- extras
  -- skip R3
  iterate 2 ((repeat first | refine awp_seq ?_ | refine awp_block ?_); (first | refine awp_skip ?_ | refine awp_region (by kernel_rfl) ?_); simp -implicitDefEqProofs (disch := (try simp only [sl]); try omega) only [sm, aNext, aSel, aNextL, aNextH, heldC, heldO, heldP, aWanted, isLight, aLight, apure, aread, bd, aload, look, aput, aHeavy, amark, aThen, aInBlock, aconvInt, abinO, abin, anil, aunop, aindexAddr, afieldAddr, afield, apart, aindex, aslice, loN, hiN, aextract, amakeIface, anilCheck, aminmax, amin2, amax2, ty, ↓reduceIte, Nat.reduceEqDiff, Nat.reduceAdd, Nat.reduceSub, Nat.reduceMul, Int.reduceLT, Int.reduceLE, Int.reduceNeg, Int.reduceToNat, reduceCtorEq, Nat.reduceBEq, Nat.reduceBNe, skipped, definite, Value.cells, am, mm, keep])
  -- calls sha.New, (sha.State).Write
  refine ACalls.mono (new_calls H) ?_
  rintro w0 H1 ⟨s1, e1⟩
  obtain ⟨X1, rfl, -, -⟩ := (s1 0).cells
  try simp -implicitDefEqProofs (disch := (try simp only [sl]); try omega) only [sm, aNext, aSel, aNextL, aNextH, heldC, heldO, heldP, aWanted, isLight, aLight, apure, aread, bd, aload, look, aput, aHeavy, amark, aThen, aInBlock, aconvInt, abinO, abin, anil, aunop, aindexAddr, afieldAddr, afield, apart, aindex, aslice, loN, hiN, aextract, amakeIface, anilCheck, aminmax, amin2, amax2, ty, ↓reduceIte, Nat.reduceEqDiff, Nat.reduceAdd, Nat.reduceSub, Nat.reduceMul, Int.reduceLT, Int.reduceLE, Int.reduceNeg, Int.reduceToNat, reduceCtorEq, Nat.reduceBEq, Nat.reduceBNe, skipped, definite, Value.cells, am, mm, keep]
  refine ACalls.mono (write_calls _ va [] a H1 (s1 0) (ha.mono e1) (by simp; omega)) ?_
  rintro w1 H2 ⟨s2, e2⟩
  rw [List.nil_append] at s2
  obtain ⟨X, rfl, hX, hXc⟩ := s2.cells
  try simp -implicitDefEqProofs (disch := (try simp only [sl]); try omega) only [sm, aNext, aSel, aNextL, aNextH, heldC, heldO, heldP, aWanted, isLight, aLight, apure, aread, bd, aload, look, aput, aHeavy, amark, aThen, aInBlock, aconvInt, abinO, abin, anil, aunop, aindexAddr, afieldAddr, afield, apart, aindex, aslice, loN, hiN, aextract, amakeIface, anilCheck, aminmax, amin2, amax2, ty, ↓reduceIte, Nat.reduceEqDiff, Nat.reduceAdd, Nat.reduceSub, Nat.reduceMul, Int.reduceLT, Int.reduceLE, Int.reduceNeg, Int.reduceToNat, reduceCtorEq, Nat.reduceBEq, Nat.reduceBNe, skipped, definite, Value.cells, am, mm, keep, hXc]
  -- R4
  iterate 1 ((repeat first | refine awp_seq ?_ | refine awp_block ?_); (first | refine awp_region (by kernel_rfl) ?_); simp -implicitDefEqProofs (disch := (try simp only [sl]); try omega) only [sm, aNext, aSel, aNextL, aNextH, heldC, heldO, heldP, aWanted, isLight, aLight, apure, aread, bd, aload, look, aput, aHeavy, amark, aThen, aInBlock, aconvInt, abinO, abin, anil, aunop, aindexAddr, afieldAddr, afield, apart, aindex, aslice, loN, hiN, aextract, amakeIface, anilCheck, aminmax, amin2, amax2, ty, ↓reduceIte, Nat.reduceEqDiff, Nat.reduceAdd, Nat.reduceSub, Nat.reduceMul, Int.reduceLT, Int.reduceLE, Int.reduceNeg, Int.reduceToNat, reduceCtorEq, Nat.reduceBEq, Nat.reduceBNe, skipped, definite, Value.cells, am, mm, keep, hX])
  -- calls (sha.State).Sum
  have p7 : (H2 ++ [ABlk.own X])[H2.length]? = some (.own X) := gpush _ _
  have x3 : Ext H (H2 ++ [ABlk.own X]) := (e1.trans e2).pushed _
  have s3 := s2.mono (Ext.push H2 [ABlk.own X])
  generalize H2 ++ [ABlk.own X] = H3 at *
  generalize H2.length = q7 at *
  refine ACalls.mono (sum_calls _ a H3 s3 (by omega)) ?_
  rintro _ H4 ⟨rfl, e4⟩
  have hda := digest_length a
  try simp -implicitDefEqProofs (disch := (try simp only [sl]); try omega) only [sm, aNext, aSel, aNextL, aNextH, heldC, heldO, heldP, aWanted, isLight, aLight, apure, aread, bd, aload, look, aput, aHeavy, amark, aThen, aInBlock, aconvInt, abinO, abin, anil, aunop, aindexAddr, afieldAddr, afield, apart, aindex, aslice, loN, hiN, aextract, amakeIface, anilCheck, aminmax, amin2, amax2, ty, ↓reduceIte, Nat.reduceEqDiff, Nat.reduceAdd, Nat.reduceSub, Nat.reduceMul, Int.reduceLT, Int.reduceLE, Int.reduceNeg, Int.reduceToNat, reduceCtorEq, Nat.reduceBEq, Nat.reduceBNe, skipped, definite, Value.cells, am, mm, keep, hda]
  have q8 : (H4 ++ [ABlk.own ((digest a).map U8)])[H4.length]? = some (.own ((digest a).map U8)) := gpush _ _
  have e5 : Ext H3 (H4 ++ [ABlk.own ((digest a).map U8)]) := e4.pushed _
  generalize H4 ++ [ABlk.own ((digest a).map U8)] = H5 at *
  generalize H4.length = q8' at *
  have p7 := e5 _ _ p7
  have s5 := s3.mono e5
  have x5 := x3.trans e5
  have c7 := AH.cells_own p7
  -- R5
  iterate 1 ((repeat first | refine awp_seq ?_ | refine awp_block ?_); (first | refine awp_region_drawC (id := 5) [(0, []), (1, []), (3, []), (4, []), (6, []), (7, []), (2, [3]), (5, []), (8, []), (9, [])] mixed (by kernel_rfl) ?_); simp -implicitDefEqProofs (disch := (try simp only [sl]); try omega) only [sm, aNext, aSel, aNextL, aNextH, heldC, heldO, heldP, aWanted, isLight, aLight, apure, aread, bd, aload, look, aput, aHeavy, amark, aThen, aInBlock, aconvInt, abinO, abin, anil, aunop, aindexAddr, afieldAddr, afield, apart, aindex, aslice, loN, hiN, aextract, amakeIface, anilCheck, aminmax, amin2, amax2, ty, ↓reduceIte, Nat.reduceEqDiff, Nat.reduceAdd, Nat.reduceSub, Nat.reduceMul, Int.reduceLT, Int.reduceLE, Int.reduceNeg, Int.reduceToNat, reduceCtorEq, Nat.reduceBEq, Nat.reduceBNe, skipped, definite, Value.cells, am, mm, keep, c7, hX])
  -- calls (sha.State).Write, (sha.State).Write
  generalize hZC : [Value.int .u32 0, .int .u32 0, .int .u32 0, .int .u32 0, .int .u32 0, .int .u32 0, .int .u32 0, .int .u32 0, .slice none 0 0, .int .u64 0] = ZC
  have hZl : ZC.length = 10 := by rw [← hZC]; rfl
  have e6 : Ext H5 (H5 ++ [ABlk.own ZC] ++ [ABlk.own ZC]) := (by repeat first | assumption | exact Ext.refl _ | exact Ext.pre (by assumption) | exact Ext.pre (Ext.pre (by assumption)) | exact Ext.pre (Ext.pre (Ext.pre (by assumption))) | exact Ext.pre (Ext.pre (Ext.pre (Ext.pre (by assumption)))) | apply Ext.pushed | refine Ext.both ?_ _ _ | refine Ext.set ?_ _ (by omega))
  have r9 : (H5 ++ [ABlk.own ZC] ++ [ABlk.own ZC])[H5.length]? = some (.own ZC) := (by simp -implicitDefEqProofs (disch := (try simp only [sl]); try omega) only [sm, aNext, aSel, aNextL, aNextH, heldC, heldO, heldP, aWanted, isLight, aLight, apure, aread, bd, aload, look, aput, aHeavy, amark, aThen, aInBlock, aconvInt, abinO, abin, anil, aunop, aindexAddr, afieldAddr, afield, apart, aindex, aslice, loN, hiN, aextract, amakeIface, anilCheck, aminmax, amin2, amax2, ty, ↓reduceIte, Nat.reduceEqDiff, Nat.reduceAdd, Nat.reduceSub, Nat.reduceMul, Int.reduceLT, Int.reduceLE, Int.reduceNeg, Int.reduceToNat, reduceCtorEq, Nat.reduceBEq, Nat.reduceBNe, skipped, definite, Value.cells, am, mm, keep])
  have r10 : (H5 ++ [ABlk.own ZC] ++ [ABlk.own ZC])[H5.length + 1]? = some (.own ZC) := (by simp -implicitDefEqProofs (disch := (try simp only [sl]); try omega) only [sm, aNext, aSel, aNextL, aNextH, heldC, heldO, heldP, aWanted, isLight, aLight, apure, aread, bd, aload, look, aput, aHeavy, amark, aThen, aInBlock, aconvInt, abinO, abin, anil, aunop, aindexAddr, afieldAddr, afield, apart, aindex, aslice, loN, hiN, aextract, amakeIface, anilCheck, aminmax, amin2, amax2, ty, ↓reduceIte, Nat.reduceEqDiff, Nat.reduceAdd, Nat.reduceSub, Nat.reduceMul, Int.reduceLT, Int.reduceLE, Int.reduceNeg, Int.reduceToNat, reduceCtorEq, Nat.reduceBEq, Nat.reduceBNe, skipped, definite, Value.cells, am, mm, keep])
  have l6 : (H5 ++ [ABlk.own ZC] ++ [ABlk.own ZC]).length = H5.length + 2 := by simp
  have l7 := got_lt p7
  have l8 := got_lt q8
  generalize H5 ++ [ABlk.own ZC] ++ [ABlk.own ZC] = H6 at *
  generalize hq9 : H5.length = q9 at *
  have s6 := s5.mono e6
  have x6 := x5.trans e6
  have c7a := e6.cells c7
  refine ACalls.mono (write_calls _ vb a b H6 s6 (hb.mono x6) (by omega)) ?_
  rintro wy H7 ⟨sy, e7⟩
  obtain ⟨Y, rfl, hY, hYc⟩ := sy.cells
  have c7b := e7.cells c7a
  try simp -implicitDefEqProofs (disch := (try simp only [sl]); try omega) only [sm, aNext, aSel, aNextL, aNextH, heldC, heldO, heldP, aWanted, isLight, aLight, apure, aread, bd, aload, look, aput, aHeavy, amark, aThen, aInBlock, aconvInt, abinO, abin, anil, aunop, aindexAddr, afieldAddr, afield, apart, aindex, aslice, loN, hiN, aextract, amakeIface, anilCheck, aminmax, amin2, amax2, ty, ↓reduceIte, Nat.reduceEqDiff, Nat.reduceAdd, Nat.reduceSub, Nat.reduceMul, Int.reduceLT, Int.reduceLE, Int.reduceNeg, Int.reduceToNat, reduceCtorEq, Nat.reduceBEq, Nat.reduceBNe, skipped, definite, Value.cells, am, mm, keep, c7a, c7b, hX]
  refine ACalls.mono (write_calls _ vc a c H7 (s6.mono e7) (hc.mono (x6.trans e7)) (by omega)) ?_
  rintro wz H8 ⟨sz, e8⟩
  obtain ⟨Z, rfl, hZ, hZc⟩ := sz.cells
  have l78 := e7.length
  have sy := sy.mono e8
  have r9 := e8 _ _ (e7 _ _ r9)
  have r10 := e8 _ _ (e7 _ _ r10)
  have g9 := got_lt r9
  have g10 := got_lt r10
  have e68 := e6.trans (e7.trans e8)
  try simp -implicitDefEqProofs (disch := (try simp only [sl]); try omega) only [sm, aNext, aSel, aNextL, aNextH, heldC, heldO, heldP, aWanted, isLight, aLight, apure, aread, bd, aload, look, aput, aHeavy, amark, aThen, aInBlock, aconvInt, abinO, abin, anil, aunop, aindexAddr, afieldAddr, afield, apart, aindex, aslice, loN, hiN, aextract, amakeIface, anilCheck, aminmax, amin2, amax2, ty, ↓reduceIte, Nat.reduceEqDiff, Nat.reduceAdd, Nat.reduceSub, Nat.reduceMul, Int.reduceLT, Int.reduceLE, Int.reduceNeg, Int.reduceToNat, reduceCtorEq, Nat.reduceBEq, Nat.reduceBNe, skipped, definite, Value.cells, am, mm, keep, hYc, hZc, hY, hZ, r9, r10, hZl]
  have e58 : Ext H5 ((H8.set q9 (.own Y)).set (q9 + 1) (.own Z)) := Ext.set (Ext.set e68 _ (by omega)) _ (by omega)
  have p9 : ((H8.set q9 (.own Y)).set (q9 + 1) (.own Z))[q9]? = some (.own Y) := (gsetn _ (q9 + 1) q9 _ (by omega)).trans (gset H8 q9 _ g9)
  have p10 : ((H8.set q9 (.own Y)).set (q9 + 1) (.own Z))[q9 + 1]? = some (.own Z) := gset _ _ _ (by rw [List.length_set]; exact g10)
  have sy := (sy.set (p := q9) (by omega) (.own Y)).set (p := q9 + 1) (by omega) (.own Z)
  have sz := (sz.set (p := q9) (by omega) (.own Y)).set (p := q9 + 1) (by omega) (.own Z)
  generalize (H8.set q9 (.own Y)).set (q9 + 1) (.own Z) = H9 at *
  have c9 := AH.cells_own p9
  have c10 := AH.cells_own p10
  clear r9 r10 g9 g10 c7a c7b e68 hZC hZl
  -- R6
  iterate 1 ((repeat first | refine awp_seq ?_ | refine awp_block ?_); (first | refine awp_region_drawC (id := 6) [(0, []), (2, []), (4, []), (5, []), (1, [2]), (3, []), (6, []), (7, [])] mixed (by kernel_rfl) ?_); simp -implicitDefEqProofs (disch := (try simp only [sl]); try omega) only [sm, aNext, aSel, aNextL, aNextH, heldC, heldO, heldP, aWanted, isLight, aLight, apure, aread, bd, aload, look, aput, aHeavy, amark, aThen, aInBlock, aconvInt, abinO, abin, anil, aunop, aindexAddr, afieldAddr, afield, apart, aindex, aslice, loN, hiN, aextract, amakeIface, anilCheck, aminmax, amin2, amax2, ty, ↓reduceIte, Nat.reduceEqDiff, Nat.reduceAdd, Nat.reduceSub, Nat.reduceMul, Int.reduceLT, Int.reduceLE, Int.reduceNeg, Int.reduceToNat, reduceCtorEq, Nat.reduceBEq, Nat.reduceBNe, skipped, definite, Value.cells, am, mm, keep, c9, c10, hY, hZ])
  -- calls (sha.State).Sum, (sha.State).Sum
  generalize hZC : List.replicate 32 (Value.int .u8 0) = ZC
  have hZl : ZC.length = 32 := by rw [← hZC]; exact List.length_replicate
  have e10 : Ext H9 (H9 ++ [ABlk.own ZC] ++ [ABlk.own ZC]) := (by repeat first | assumption | exact Ext.refl _ | exact Ext.pre (by assumption) | exact Ext.pre (Ext.pre (by assumption)) | exact Ext.pre (Ext.pre (Ext.pre (by assumption))) | exact Ext.pre (Ext.pre (Ext.pre (Ext.pre (by assumption)))) | apply Ext.pushed | refine Ext.both ?_ _ _ | refine Ext.set ?_ _ (by omega))
  have r11 : (H9 ++ [ABlk.own ZC] ++ [ABlk.own ZC])[H9.length]? = some (.own ZC) := (by simp -implicitDefEqProofs (disch := (try simp only [sl]); try omega) only [sm, aNext, aSel, aNextL, aNextH, heldC, heldO, heldP, aWanted, isLight, aLight, apure, aread, bd, aload, look, aput, aHeavy, amark, aThen, aInBlock, aconvInt, abinO, abin, anil, aunop, aindexAddr, afieldAddr, afield, apart, aindex, aslice, loN, hiN, aextract, amakeIface, anilCheck, aminmax, amin2, amax2, ty, ↓reduceIte, Nat.reduceEqDiff, Nat.reduceAdd, Nat.reduceSub, Nat.reduceMul, Int.reduceLT, Int.reduceLE, Int.reduceNeg, Int.reduceToNat, reduceCtorEq, Nat.reduceBEq, Nat.reduceBNe, skipped, definite, Value.cells, am, mm, keep])
  have r12 : (H9 ++ [ABlk.own ZC] ++ [ABlk.own ZC])[H9.length + 1]? = some (.own ZC) := (by simp -implicitDefEqProofs (disch := (try simp only [sl]); try omega) only [sm, aNext, aSel, aNextL, aNextH, heldC, heldO, heldP, aWanted, isLight, aLight, apure, aread, bd, aload, look, aput, aHeavy, amark, aThen, aInBlock, aconvInt, abinO, abin, anil, aunop, aindexAddr, afieldAddr, afield, apart, aindex, aslice, loN, hiN, aextract, amakeIface, anilCheck, aminmax, amin2, amax2, ty, ↓reduceIte, Nat.reduceEqDiff, Nat.reduceAdd, Nat.reduceSub, Nat.reduceMul, Int.reduceLT, Int.reduceLE, Int.reduceNeg, Int.reduceToNat, reduceCtorEq, Nat.reduceBEq, Nat.reduceBNe, skipped, definite, Value.cells, am, mm, keep])
  have l9 := got_lt p9
  have l10 := got_lt p10
  generalize H9 ++ [ABlk.own ZC] ++ [ABlk.own ZC] = H10 at *
  generalize hq11 : H9.length = q11 at *
  have c9a := e10.cells c9
  have c10a := e10.cells c10
  refine ACalls.mono (sum_calls _ (a ++ b) H10 (sy.mono e10) (by rw [List.length_append]; omega)) ?_
  rintro _ H11 ⟨rfl, e11⟩
  have c9b := e11.cells c9a
  have c10b := e11.cells c10a
  try simp -implicitDefEqProofs (disch := (try simp only [sl]); try omega) only [sm, aNext, aSel, aNextL, aNextH, heldC, heldO, heldP, aWanted, isLight, aLight, apure, aread, bd, aload, look, aput, aHeavy, amark, aThen, aInBlock, aconvInt, abinO, abin, anil, aunop, aindexAddr, afieldAddr, afield, apart, aindex, aslice, loN, hiN, aextract, amakeIface, anilCheck, aminmax, amin2, amax2, ty, ↓reduceIte, Nat.reduceEqDiff, Nat.reduceAdd, Nat.reduceSub, Nat.reduceMul, Int.reduceLT, Int.reduceLE, Int.reduceNeg, Int.reduceToNat, reduceCtorEq, Nat.reduceBEq, Nat.reduceBNe, skipped, definite, Value.cells, am, mm, keep, c9a, c10a, c9b, c10b, hY, hZ]
  refine ACalls.mono (sum_calls _ (a ++ c) H11 ((sz.mono e10).mono e11) (by rw [List.length_append]; omega)) ?_
  rintro _ H12 ⟨rfl, e12⟩
  have hdy := digest_length (a ++ b)
  have hdz := digest_length (a ++ c)
  have r11 := e12 _ _ (e11 _ _ r11)
  have r12 := e12 _ _ (e11 _ _ r12)
  have g11 := got_lt r11
  have g12 := got_lt r12
  have e912 := e10.trans (e11.trans e12)
  try simp -implicitDefEqProofs (disch := (try simp only [sl]); try omega) only [sm, aNext, aSel, aNextL, aNextH, heldC, heldO, heldP, aWanted, isLight, aLight, apure, aread, bd, aload, look, aput, aHeavy, amark, aThen, aInBlock, aconvInt, abinO, abin, anil, aunop, aindexAddr, afieldAddr, afield, apart, aindex, aslice, loN, hiN, aextract, amakeIface, anilCheck, aminmax, amin2, amax2, ty, ↓reduceIte, Nat.reduceEqDiff, Nat.reduceAdd, Nat.reduceSub, Nat.reduceMul, Int.reduceLT, Int.reduceLE, Int.reduceNeg, Int.reduceToNat, reduceCtorEq, Nat.reduceBEq, Nat.reduceBNe, skipped, definite, Value.cells, am, mm, keep, hdy, hdz, r11, r12, hZl]
  have e913 : Ext H9 ((H12.set q11 (.own ((digest (a ++ b)).map U8))).set (q11 + 1) (.own ((digest (a ++ c)).map U8))) := Ext.set (Ext.set e912 _ (by omega)) _ (by omega)
  have p11 : ((H12.set q11 (.own ((digest (a ++ b)).map U8))).set (q11 + 1) (.own ((digest (a ++ c)).map U8)))[q11]? = some (.own ((digest (a ++ b)).map U8)) := (gsetn _ (q11 + 1) q11 _ (by omega)).trans (gset H12 q11 _ g11)
  have p12 : ((H12.set q11 (.own ((digest (a ++ b)).map U8))).set (q11 + 1) (.own ((digest (a ++ c)).map U8)))[q11 + 1]? = some (.own ((digest (a ++ c)).map U8)) := gset _ _ _ (by rw [List.length_set]; exact g12)
  generalize (H12.set q11 (.own ((digest (a ++ b)).map U8))).set (q11 + 1) (.own ((digest (a ++ c)).map U8)) = H13 at *
  have e513 := e58.trans e913
  have s13 := s5.mono e513
  have sy13 := sy.mono e913
  have sz13 := sz.mono e913
  have x13 := x5.trans e513
  have k7 := AH.cells_own (e513 _ _ p7)
  have k8 := AH.cells_own (e513 _ _ q8)
  have k9 := AH.cells_own (e913 _ _ p9)
  have k10 := AH.cells_own (e913 _ _ p10)
  have k11 := AH.cells_own p11
  have k12 := AH.cells_own p12
  clear r11 r12 g11 g12 c9 c10 c9a c10a c9b c10b e912 hZC hZl s1 s2 s3 s5 s6 sy sz c7 e58 e513
  -- R7
  iterate 1 ((repeat first | refine awp_seq ?_ | refine awp_block ?_); (first | refine awp_region (by kernel_rfl) ?_); simp -implicitDefEqProofs (disch := (try simp only [sl]); try omega) only [sm, aNext, aSel, aNextL, aNextH, heldC, heldO, heldP, aWanted, isLight, aLight, apure, aread, bd, aload, look, aput, aHeavy, amark, aThen, aInBlock, aconvInt, abinO, abin, anil, aunop, aindexAddr, afieldAddr, afield, apart, aindex, aslice, loN, hiN, aextract, amakeIface, anilCheck, aminmax, amin2, amax2, ty, ↓reduceIte, Nat.reduceEqDiff, Nat.reduceAdd, Nat.reduceSub, Nat.reduceMul, Int.reduceLT, Int.reduceLE, Int.reduceNeg, Int.reduceToNat, reduceCtorEq, Nat.reduceBEq, Nat.reduceBNe, skipped, definite, Value.cells, am, mm, keep, k9, hY])
  -- calls (sha.State).Write
  refine ACalls.mono (write_calls _ vc _ c H13 sy13 (hc.mono x13) (by rw [List.length_append]; omega)) ?_
  rintro w4 H14 ⟨-, e14⟩
  have j10 := e14.cells k10
  try simp -implicitDefEqProofs (disch := (try simp only [sl]); try omega) only [sm, aNext, aSel, aNextL, aNextH, heldC, heldO, heldP, aWanted, isLight, aLight, apure, aread, bd, aload, look, aput, aHeavy, amark, aThen, aInBlock, aconvInt, abinO, abin, anil, aunop, aindexAddr, afieldAddr, afield, apart, aindex, aslice, loN, hiN, aextract, amakeIface, anilCheck, aminmax, amin2, amax2, ty, ↓reduceIte, Nat.reduceEqDiff, Nat.reduceAdd, Nat.reduceSub, Nat.reduceMul, Int.reduceLT, Int.reduceLE, Int.reduceNeg, Int.reduceToNat, reduceCtorEq, Nat.reduceBEq, Nat.reduceBNe, skipped, definite, Value.cells, am, mm, keep]
  -- R8
  iterate 1 ((repeat first | refine awp_seq ?_ | refine awp_block ?_); (first | refine awp_region (by kernel_rfl) ?_); simp -implicitDefEqProofs (disch := (try simp only [sl]); try omega) only [sm, aNext, aSel, aNextL, aNextH, heldC, heldO, heldP, aWanted, isLight, aLight, apure, aread, bd, aload, look, aput, aHeavy, amark, aThen, aInBlock, aconvInt, abinO, abin, anil, aunop, aindexAddr, afieldAddr, afield, apart, aindex, aslice, loN, hiN, aextract, amakeIface, anilCheck, aminmax, amin2, amax2, ty, ↓reduceIte, Nat.reduceEqDiff, Nat.reduceAdd, Nat.reduceSub, Nat.reduceMul, Int.reduceLT, Int.reduceLE, Int.reduceNeg, Int.reduceToNat, reduceCtorEq, Nat.reduceBEq, Nat.reduceBNe, skipped, definite, Value.cells, am, mm, keep, j10, hZ])
  -- calls (sha.State).Write
  refine ACalls.mono (write_calls _ vb _ b H14 (sz13.mono e14) (hb.mono (x13.trans e14)) (by rw [List.length_append]; omega)) ?_
  rintro w5 H15 ⟨-, e15⟩
  have e1315 := e14.trans e15
  have s15 := s13.mono e1315
  have sy15 := sy13.mono e1315
  have sz15 := sz13.mono e1315
  have x15 := x13.trans e1315
  have m7 := e1315.cells k7
  have m8 := e1315.cells k8
  have m9 := e1315.cells k9
  have m10 := e1315.cells k10
  have m11 := e1315.cells k11
  have m12 := e1315.cells k12
  clear k7 k8 k9 k10 k11 k12 s13 sy13 sz13
  try simp -implicitDefEqProofs (disch := (try simp only [sl]); try omega) only [sm, aNext, aSel, aNextL, aNextH, heldC, heldO, heldP, aWanted, isLight, aLight, apure, aread, bd, aload, look, aput, aHeavy, amark, aThen, aInBlock, aconvInt, abinO, abin, anil, aunop, aindexAddr, afieldAddr, afield, apart, aindex, aslice, loN, hiN, aextract, amakeIface, anilCheck, aminmax, amin2, amax2, ty, ↓reduceIte, Nat.reduceEqDiff, Nat.reduceAdd, Nat.reduceSub, Nat.reduceMul, Int.reduceLT, Int.reduceLE, Int.reduceNeg, Int.reduceToNat, reduceCtorEq, Nat.reduceBEq, Nat.reduceBNe, skipped, definite, Value.cells, am, mm, keep]
  have m7_15 := m7
  have m8_15 := m8
  have m9_15 := m9
  have m10_15 := m10
  have m11_15 := m11
  have m12_15 := m12
  have q1 := fun l : List UInt8 => fun hl => aeq32 l l hl hl
  simp only [decide_true] at q1
  have qa := q1 _ hda
  have qy := q1 _ hdy
  have qz := q1 _ hdz
  obtain ⟨pa, na, ea, rfl⟩ := ha.isSlice
  obtain ⟨pb, nb, eb, rfl⟩ := hb.isSlice
  obtain ⟨pc, nc, ec, rfl⟩ := hc.isSlice
  -- extras
  -- R9
  iterate 1 ((repeat first | refine awp_seq ?_ | refine awp_block ?_); (first | refine awp_region_drawC (id := 9) [(0, []), (2, []), (1, [2]), (3, []), (4, []), (5, []), (7, []), (6, [7]), (8, []), (9, []), (10, []), (11, []), (13, []), (12, [13]), (14, []), (15, []), (16, []), (17, []), (18, []), (19, []), (20, []), (21, [17]), (22, []), (23, []), (24, []), (25, []), (26, []), (27, []), (28, []), (29, [25]), (30, []), (31, []), (32, []), (33, []), (34, []), (37, []), (35, [37]), (36, [37]), (38, []), (39, []), (40, []), (41, []), (42, []), (43, [])] mixed (by kernel_rfl) ?_); simp -implicitDefEqProofs (disch := (try simp only [sl]); try omega) only [sm, aNext, aSel, aNextL, aNextH, heldC, heldO, heldP, aWanted, isLight, aLight, apure, aread, bd, aload, look, aput, aHeavy, amark, aThen, aInBlock, aconvInt, abinO, abin, anil, aunop, aindexAddr, afieldAddr, afield, apart, aindex, aslice, loN, hiN, aextract, amakeIface, anilCheck, aminmax, amin2, amax2, ty, ↓reduceIte, Nat.reduceEqDiff, Nat.reduceAdd, Nat.reduceSub, Nat.reduceMul, Int.reduceLT, Int.reduceLE, Int.reduceNeg, Int.reduceToNat, reduceCtorEq, Nat.reduceBEq, Nat.reduceBNe, skipped, definite, Value.cells, am, mm, keep, hX, hY, hZ, qa, qy, qz, hda, hdy, hdz, m7_15, m8_15, m9_15, m10_15, m11_15, m12_15])
  -- calls (sha.State).Sum, (sha.State).Sum, (sha.State).Sum, sha.Sum, sha.Sum, (sha.State).Write, (sha.State).Sum, carlinglaw01.alive
  refine ACalls.mono (sum_calls _ a H15 s15 (by omega)) ?_
  rintro _ H16 ⟨rfl, e16⟩
  have m7_16 := e16.cells m7_15
  have m8_16 := e16.cells m8_15
  have m9_16 := e16.cells m9_15
  have m10_16 := e16.cells m10_15
  have m11_16 := e16.cells m11_15
  have m12_16 := e16.cells m12_15
  have sy16 := sy15.mono e16
  have sz16 := sz15.mono e16
  have x16 := x15.trans e16
  try simp -implicitDefEqProofs (disch := (try simp only [sl]); try omega) only [sm, aNext, aSel, aNextL, aNextH, heldC, heldO, heldP, aWanted, isLight, aLight, apure, aread, bd, aload, look, aput, aHeavy, amark, aThen, aInBlock, aconvInt, abinO, abin, anil, aunop, aindexAddr, afieldAddr, afield, apart, aindex, aslice, loN, hiN, aextract, amakeIface, anilCheck, aminmax, amin2, amax2, ty, ↓reduceIte, Nat.reduceEqDiff, Nat.reduceAdd, Nat.reduceSub, Nat.reduceMul, Int.reduceLT, Int.reduceLE, Int.reduceNeg, Int.reduceToNat, reduceCtorEq, Nat.reduceBEq, Nat.reduceBNe, skipped, definite, Value.cells, am, mm, keep, hX, hY, hZ, qa, qy, qz, hda, hdy, hdz, m7_15, m8_15, m9_15, m10_15, m11_15, m12_15, m7_16, m8_16, m9_16, m10_16, m11_16, m12_16]
  refine ACalls.mono (sum_calls _ (a ++ b) H16 sy16 (by rw [List.length_append]; omega)) ?_
  rintro _ H17 ⟨rfl, e17⟩
  have m7_17 := e17.cells m7_16
  have m8_17 := e17.cells m8_16
  have m9_17 := e17.cells m9_16
  have m10_17 := e17.cells m10_16
  have m11_17 := e17.cells m11_16
  have m12_17 := e17.cells m12_16
  have sz17 := sz16.mono e17
  have x17 := x16.trans e17
  try simp -implicitDefEqProofs (disch := (try simp only [sl]); try omega) only [sm, aNext, aSel, aNextL, aNextH, heldC, heldO, heldP, aWanted, isLight, aLight, apure, aread, bd, aload, look, aput, aHeavy, amark, aThen, aInBlock, aconvInt, abinO, abin, anil, aunop, aindexAddr, afieldAddr, afield, apart, aindex, aslice, loN, hiN, aextract, amakeIface, anilCheck, aminmax, amin2, amax2, ty, ↓reduceIte, Nat.reduceEqDiff, Nat.reduceAdd, Nat.reduceSub, Nat.reduceMul, Int.reduceLT, Int.reduceLE, Int.reduceNeg, Int.reduceToNat, reduceCtorEq, Nat.reduceBEq, Nat.reduceBNe, skipped, definite, Value.cells, am, mm, keep, hX, hY, hZ, qa, qy, qz, hda, hdy, hdz, m7_16, m8_16, m9_16, m10_16, m11_16, m12_16, m7_17, m8_17, m9_17, m10_17, m11_17, m12_17]
  refine ACalls.mono (sum_calls _ (a ++ c) H17 sz17 (by rw [List.length_append]; omega)) ?_
  rintro _ H18 ⟨rfl, e18⟩
  have m7_18 := e18.cells m7_17
  have m8_18 := e18.cells m8_17
  have m9_18 := e18.cells m9_17
  have m10_18 := e18.cells m10_17
  have m11_18 := e18.cells m11_17
  have m12_18 := e18.cells m12_17
  have x18 := x17.trans e18
  try simp -implicitDefEqProofs (disch := (try simp only [sl]); try omega) only [sm, aNext, aSel, aNextL, aNextH, heldC, heldO, heldP, aWanted, isLight, aLight, apure, aread, bd, aload, look, aput, aHeavy, amark, aThen, aInBlock, aconvInt, abinO, abin, anil, aunop, aindexAddr, afieldAddr, afield, apart, aindex, aslice, loN, hiN, aextract, amakeIface, anilCheck, aminmax, amin2, amax2, ty, ↓reduceIte, Nat.reduceEqDiff, Nat.reduceAdd, Nat.reduceSub, Nat.reduceMul, Int.reduceLT, Int.reduceLE, Int.reduceNeg, Int.reduceToNat, reduceCtorEq, Nat.reduceBEq, Nat.reduceBNe, skipped, definite, Value.cells, am, mm, keep, hX, hY, hZ, qa, qy, qz, hda, hdy, hdz, m7_17, m8_17, m9_17, m10_17, m11_17, m12_17, m7_18, m8_18, m9_18, m10_18, m11_18, m12_18]
  have t19 := two_parts (ha.mono x18) (hb.mono x18)
  have u19 : Ext H18 (H18 ++ [ABlk.own [.slice pa na ea, .slice pb nb eb]]) := Ext.push _ _
  have v7 := u19.cells m7_18
  have v8 := u19.cells m8_18
  have v9 := u19.cells m9_18
  have v10 := u19.cells m10_18
  have v11 := u19.cells m11_18
  have v12 := u19.cells m12_18
  refine ACalls.mono (sumf_calls _ _ _ t19 (by show 2 ≤ _; decide) (by rw [allB_two, List.length_append]; omega)) ?_
  rintro _ H19 ⟨rfl, e19⟩
  rw [allB_two]
  have m7_19 := e19.cells v7
  have m8_19 := e19.cells v8
  have m9_19 := e19.cells v9
  have m10_19 := e19.cells v10
  have m11_19 := e19.cells v11
  have m12_19 := e19.cells v12
  have x19 := (x18.trans u19).trans e19
  try simp -implicitDefEqProofs (disch := (try simp only [sl]); try omega) only [sm, aNext, aSel, aNextL, aNextH, heldC, heldO, heldP, aWanted, isLight, aLight, apure, aread, bd, aload, look, aput, aHeavy, amark, aThen, aInBlock, aconvInt, abinO, abin, anil, aunop, aindexAddr, afieldAddr, afield, apart, aindex, aslice, loN, hiN, aextract, amakeIface, anilCheck, aminmax, amin2, amax2, ty, ↓reduceIte, Nat.reduceEqDiff, Nat.reduceAdd, Nat.reduceSub, Nat.reduceMul, Int.reduceLT, Int.reduceLE, Int.reduceNeg, Int.reduceToNat, reduceCtorEq, Nat.reduceBEq, Nat.reduceBNe, skipped, definite, Value.cells, am, mm, keep, hX, hY, hZ, qa, qy, qz, hda, hdy, hdz, m7_18, m8_18, m9_18, m10_18, m11_18, m12_18, m7_19, m8_19, m9_19, m10_19, m11_19, m12_19, v7, v8, v9, v10, v11, v12]
  clear v7 v8 v9 v10 v11 v12 m7_18 m8_18 m9_18 m10_18 m11_18 m12_18
  have t20 := two_parts (ha.mono x19) (hc.mono x19)
  have u20 : Ext H19 (H19 ++ [ABlk.own [.slice pa na ea, .slice pc nc ec]]) := Ext.push _ _
  have v7 := u20.cells m7_19
  have v8 := u20.cells m8_19
  have v9 := u20.cells m9_19
  have v10 := u20.cells m10_19
  have v11 := u20.cells m11_19
  have v12 := u20.cells m12_19
  refine ACalls.mono (sumf_calls _ _ _ t20 (by show 2 ≤ _; decide) (by rw [allB_two, List.length_append]; omega)) ?_
  rintro _ H20 ⟨rfl, e20⟩
  rw [allB_two]
  have m7_20 := e20.cells v7
  have m8_20 := e20.cells v8
  have m9_20 := e20.cells v9
  have m10_20 := e20.cells v10
  have m11_20 := e20.cells v11
  have m12_20 := e20.cells v12
  have x20 := (x19.trans u20).trans e20
  try simp -implicitDefEqProofs (disch := (try simp only [sl]); try omega) only [sm, aNext, aSel, aNextL, aNextH, heldC, heldO, heldP, aWanted, isLight, aLight, apure, aread, bd, aload, look, aput, aHeavy, amark, aThen, aInBlock, aconvInt, abinO, abin, anil, aunop, aindexAddr, afieldAddr, afield, apart, aindex, aslice, loN, hiN, aextract, amakeIface, anilCheck, aminmax, amin2, amax2, ty, ↓reduceIte, Nat.reduceEqDiff, Nat.reduceAdd, Nat.reduceSub, Nat.reduceMul, Int.reduceLT, Int.reduceLE, Int.reduceNeg, Int.reduceToNat, reduceCtorEq, Nat.reduceBEq, Nat.reduceBNe, skipped, definite, Value.cells, am, mm, keep, hX, hY, hZ, qa, qy, qz, hda, hdy, hdz, m7_19, m8_19, m9_19, m10_19, m11_19, m12_19, m7_20, m8_20, m9_20, m10_20, m11_20, m12_20, v7, v8, v9, v10, v11, v12]
  clear v7 v8 v9 v10 v11 v12 m7_19 m8_19 m9_19 m10_19 m11_19 m12_19
  have hz0 : St 0 H20 (.agg #[.int .u32 0, .int .u32 0, .int .u32 0, .int .u32 0, .int .u32 0, .int .u32 0, .int .u32 0, .int .u32 0, .slice none 0 0, .int .u64 0]) [] := St.zero 0 H20 (zw 8) rfl
  refine ACalls.mono (write_calls _ _ [] a H20 hz0 (ha.mono x20) (by simp; omega)) ?_
  rintro w6 H21 ⟨s21, e21⟩
  rw [List.nil_append] at s21
  have m8_21 := e21.cells m8_20
  try simp -implicitDefEqProofs (disch := (try simp only [sl]); try omega) only [sm, aNext, aSel, aNextL, aNextH, heldC, heldO, heldP, aWanted, isLight, aLight, apure, aread, bd, aload, look, aput, aHeavy, amark, aThen, aInBlock, aconvInt, abinO, abin, anil, aunop, aindexAddr, afieldAddr, afield, apart, aindex, aslice, loN, hiN, aextract, amakeIface, anilCheck, aminmax, amin2, amax2, ty, ↓reduceIte, Nat.reduceEqDiff, Nat.reduceAdd, Nat.reduceSub, Nat.reduceMul, Int.reduceLT, Int.reduceLE, Int.reduceNeg, Int.reduceToNat, reduceCtorEq, Nat.reduceBEq, Nat.reduceBNe, skipped, definite, Value.cells, am, mm, keep, hX, hY, hZ, qa, qy, qz, hda, hdy, hdz, m8_20, m8_21]
  refine ACalls.mono (sum_calls _ a H21 s21 (by omega)) ?_
  rintro _ H22 ⟨rfl, e22⟩
  have m8_22 := e22.cells m8_21
  try simp -implicitDefEqProofs (disch := (try simp only [sl]); try omega) only [sm, aNext, aSel, aNextL, aNextH, heldC, heldO, heldP, aWanted, isLight, aLight, apure, aread, bd, aload, look, aput, aHeavy, amark, aThen, aInBlock, aconvInt, abinO, abin, anil, aunop, aindexAddr, afieldAddr, afield, apart, aindex, aslice, loN, hiN, aextract, amakeIface, anilCheck, aminmax, amin2, amax2, ty, ↓reduceIte, Nat.reduceEqDiff, Nat.reduceAdd, Nat.reduceSub, Nat.reduceMul, Int.reduceLT, Int.reduceLE, Int.reduceNeg, Int.reduceToNat, reduceCtorEq, Nat.reduceBEq, Nat.reduceBNe, skipped, definite, Value.cells, am, mm, keep, hX, hY, hZ, qa, qy, qz, hda, hdy, hdz, m8_21, m8_22]
  refine ACalls.mono (salive_calls _) ?_
  rintro _ H23 ⟨rfl, e23⟩
  try simp -implicitDefEqProofs (disch := (try simp only [sl]); try omega) only [sm, aNext, aSel, aNextL, aNextH, heldC, heldO, heldP, aWanted, isLight, aLight, apure, aread, bd, aload, look, aput, aHeavy, amark, aThen, aInBlock, aconvInt, abinO, abin, anil, aunop, aindexAddr, afieldAddr, afield, apart, aindex, aslice, loN, hiN, aextract, amakeIface, anilCheck, aminmax, amin2, amax2, ty, ↓reduceIte, Nat.reduceEqDiff, Nat.reduceAdd, Nat.reduceSub, Nat.reduceMul, Int.reduceLT, Int.reduceLE, Int.reduceNeg, Int.reduceToNat, reduceCtorEq, Nat.reduceBEq, Nat.reduceBNe, skipped, definite, Value.cells, am, mm, keep, hX, hY, hZ, qa, qy, qz, hda, hdy, hdz]
  -- auto: nothing
  first | refine awp_ret ?_ | skip
  show ∃ v, aresults Try.prog Try.f4 _ _ = some v ∧ _
  rw [aresults_1 (r := .tmp 6) (by kernel_rfl)]
  simp -implicitDefEqProofs (disch := (try simp only [sl]); try omega) only [aresult, Option.some.injEq, exists_eq_left', sm, aNext, aSel, aNextL, aNextH, heldC, heldO, heldP, aWanted, isLight, aLight, apure, aread, bd, aload, look, aput, aHeavy, amark, aThen, aInBlock, aconvInt, abinO, abin, anil, aunop, aindexAddr, afieldAddr, afield, apart, aindex, aslice, loN, hiN, aextract, amakeIface, anilCheck, aminmax, amin2, amax2, ty, ↓reduceIte, Nat.reduceEqDiff, Nat.reduceAdd, Nat.reduceSub, Nat.reduceMul, Int.reduceLT, Int.reduceLE, Int.reduceNeg, Int.reduceToNat, reduceCtorEq, Nat.reduceBEq, Nat.reduceBNe, skipped, definite, Value.cells, am, mm, keep, hX, hY, hZ, qa, qy, qz, hda, hdy, hdz]
end Go.Proofs.Ytjbockfjmomdjaa
