/- What each statement of the stretched keys asks besides: alive, far. -/
import Derived.Test.YtelpdppdhimfoaaSt3
import Derived.Test.YtelpdppdhimfoaaIn
namespace Go.Proofs.Ytelpdppdhimfoaa
open Go Go.RowKit
set_option linter.unusedSimpArgs false
set_option linter.unusedVariables false
set_option maxRecDepth 4000
def Far (k s : Nat) (r z : Int) : Prop := 200 < k ∨ 200 < s ∨ (6 < r ∧ r ≤ 10000) ∨ (100 < z ∧ z ≤ 1024)
instance (k s : Nat) (r z : Int) : Decidable (Far k s r z) := by unfold Far; infer_instance
set_option maxHeartbeats 4000000 in
theorem stfar_calls (v w : Value) (k s : List UInt8) (r z : Int) (H : AH) (hk : SL H v (k.map U8)) (hs : SL H w (s.map U8)) :
    ACalls Try.prog 11 #[v, w, .int .i64 r, .int .i64 z] H fun v H' => v = .bool (decide (Far k.length s.length r z)) ∧ H' = H := by
  have lk := alen_sl (P := Try.prog) (T := 22) (by simp only [ty]) hk
  rw [List.length_map] at lk
  have ls := alen_sl (P := Try.prog) (T := 22) (by simp only [ty]) hs
  rw [List.length_map] at ls
  refine acalls_of_body Try.func11 rfl Try.ntmps11 (by simp) ?_
  simp only [argsT, Nat.reduceAdd]
  -- extras
  -- R0
  iterate 1 ((repeat first | refine awp_seq ?_ | refine awp_block ?_); (first | refine awp_region (by kernel_rfl) ?_); simp -implicitDefEqProofs (disch := (try simp only [sl]); try omega) only [sm, aNext, aSel, aNextL, aNextH, heldC, heldO, heldP, aWanted, isLight, aLight, apure, aread, bd, aload, look, aput, aHeavy, amark, aThen, aInBlock, aconvInt, abinO, abin, anil, aunop, aindexAddr, afieldAddr, afield, apart, aindex, aslice, loN, hiN, aextract, amakeIface, anilCheck, aminmax, amin2, amax2, ty, ↓reduceIte, Nat.reduceEqDiff, Nat.reduceAdd, Nat.reduceSub, Nat.reduceMul, Int.reduceLT, Int.reduceLE, Int.reduceNeg, Int.reduceToNat, reduceCtorEq, Nat.reduceBEq, Nat.reduceBNe, skipped, definite, Value.cells, am, mm, keep, aint])
  -- (cursor noted)
  by_cases h1 : k.length > 200
  · -- (cursor back)
    -- R1
    iterate 1 ((repeat first | refine awp_seq ?_ | refine awp_block ?_); (first | refine awp_region (by kernel_rfl) ?_); simp -implicitDefEqProofs (disch := (try simp only [sl]); try omega) only [sm, aNext, aSel, aNextL, aNextH, heldC, heldO, heldP, aWanted, isLight, aLight, apure, aread, bd, aload, look, aput, aHeavy, amark, aThen, aInBlock, aconvInt, abinO, abin, anil, aunop, aindexAddr, afieldAddr, afield, apart, aindex, aslice, loN, hiN, aextract, amakeIface, anilCheck, aminmax, amin2, amax2, ty, ↓reduceIte, Nat.reduceEqDiff, Nat.reduceAdd, Nat.reduceSub, Nat.reduceMul, Int.reduceLT, Int.reduceLE, Int.reduceNeg, Int.reduceToNat, reduceCtorEq, Nat.reduceBEq, Nat.reduceBNe, skipped, definite, Value.cells, am, mm, keep, aint, h1, lk, ls])
    first | refine awp_ret ?_ | skip
    show ∃ v, aresults Try.prog Try.f11 _ _ = some v ∧ _
    rw [aresults_1 (r := .tmp 8) (by kernel_rfl)]
    simp -implicitDefEqProofs (disch := (try simp only [sl]); try omega) only [aresult, Option.some.injEq, exists_eq_left', sm, aNext, aSel, aNextL, aNextH, heldC, heldO, heldP, aWanted, isLight, aLight, apure, aread, bd, aload, look, aput, aHeavy, amark, aThen, aInBlock, aconvInt, abinO, abin, anil, aunop, aindexAddr, afieldAddr, afield, apart, aindex, aslice, loN, hiN, aextract, amakeIface, anilCheck, aminmax, amin2, amax2, ty, ↓reduceIte, Nat.reduceEqDiff, Nat.reduceAdd, Nat.reduceSub, Nat.reduceMul, Int.reduceLT, Int.reduceLE, Int.reduceNeg, Int.reduceToNat, reduceCtorEq, Nat.reduceBEq, Nat.reduceBNe, skipped, definite, Value.cells, am, mm, keep, aint]
    try simp [Far, h1]
    try omega
  by_cases h2 : s.length > 200
  · -- (cursor back)
    -- R1
    iterate 1 ((repeat first | refine awp_seq ?_ | refine awp_block ?_); (first | refine awp_region (by kernel_rfl) ?_); simp -implicitDefEqProofs (disch := (try simp only [sl]); try omega) only [sm, aNext, aSel, aNextL, aNextH, heldC, heldO, heldP, aWanted, isLight, aLight, apure, aread, bd, aload, look, aput, aHeavy, amark, aThen, aInBlock, aconvInt, abinO, abin, anil, aunop, aindexAddr, afieldAddr, afield, apart, aindex, aslice, loN, hiN, aextract, amakeIface, anilCheck, aminmax, amin2, amax2, ty, ↓reduceIte, Nat.reduceEqDiff, Nat.reduceAdd, Nat.reduceSub, Nat.reduceMul, Int.reduceLT, Int.reduceLE, Int.reduceNeg, Int.reduceToNat, reduceCtorEq, Nat.reduceBEq, Nat.reduceBNe, skipped, definite, Value.cells, am, mm, keep, aint, h1, h2, lk, ls])
    first | refine awp_ret ?_ | skip
    show ∃ v, aresults Try.prog Try.f11 _ _ = some v ∧ _
    rw [aresults_1 (r := .tmp 8) (by kernel_rfl)]
    simp -implicitDefEqProofs (disch := (try simp only [sl]); try omega) only [aresult, Option.some.injEq, exists_eq_left', sm, aNext, aSel, aNextL, aNextH, heldC, heldO, heldP, aWanted, isLight, aLight, apure, aread, bd, aload, look, aput, aHeavy, amark, aThen, aInBlock, aconvInt, abinO, abin, anil, aunop, aindexAddr, afieldAddr, afield, apart, aindex, aslice, loN, hiN, aextract, amakeIface, anilCheck, aminmax, amin2, amax2, ty, ↓reduceIte, Nat.reduceEqDiff, Nat.reduceAdd, Nat.reduceSub, Nat.reduceMul, Int.reduceLT, Int.reduceLE, Int.reduceNeg, Int.reduceToNat, reduceCtorEq, Nat.reduceBEq, Nat.reduceBNe, skipped, definite, Value.cells, am, mm, keep, aint]
    try simp [Far, h1, h2]
    try omega
  by_cases h3 : r > 6
  · by_cases h4 : r ≤ 10000
    · -- (cursor back)
      -- R1
      iterate 1 ((repeat first | refine awp_seq ?_ | refine awp_block ?_); (first | refine awp_region (by kernel_rfl) ?_); simp -implicitDefEqProofs (disch := (try simp only [sl]); try omega) only [sm, aNext, aSel, aNextL, aNextH, heldC, heldO, heldP, aWanted, isLight, aLight, apure, aread, bd, aload, look, aput, aHeavy, amark, aThen, aInBlock, aconvInt, abinO, abin, anil, aunop, aindexAddr, afieldAddr, afield, apart, aindex, aslice, loN, hiN, aextract, amakeIface, anilCheck, aminmax, amin2, amax2, ty, ↓reduceIte, Nat.reduceEqDiff, Nat.reduceAdd, Nat.reduceSub, Nat.reduceMul, Int.reduceLT, Int.reduceLE, Int.reduceNeg, Int.reduceToNat, reduceCtorEq, Nat.reduceBEq, Nat.reduceBNe, skipped, definite, Value.cells, am, mm, keep, aint, h1, h2, h3, h4, lk, ls])
      first | refine awp_ret ?_ | skip
      show ∃ v, aresults Try.prog Try.f11 _ _ = some v ∧ _
      rw [aresults_1 (r := .tmp 8) (by kernel_rfl)]
      simp -implicitDefEqProofs (disch := (try simp only [sl]); try omega) only [aresult, Option.some.injEq, exists_eq_left', sm, aNext, aSel, aNextL, aNextH, heldC, heldO, heldP, aWanted, isLight, aLight, apure, aread, bd, aload, look, aput, aHeavy, amark, aThen, aInBlock, aconvInt, abinO, abin, anil, aunop, aindexAddr, afieldAddr, afield, apart, aindex, aslice, loN, hiN, aextract, amakeIface, anilCheck, aminmax, amin2, amax2, ty, ↓reduceIte, Nat.reduceEqDiff, Nat.reduceAdd, Nat.reduceSub, Nat.reduceMul, Int.reduceLT, Int.reduceLE, Int.reduceNeg, Int.reduceToNat, reduceCtorEq, Nat.reduceBEq, Nat.reduceBNe, skipped, definite, Value.cells, am, mm, keep, aint]
      try simp [Far, h1, h2, h3, h4]
      try omega
    · skip
      by_cases h5 : z > 100
      · by_cases h6 : z ≤ 1024
        · -- (cursor back)
          -- R1
          iterate 1 ((repeat first | refine awp_seq ?_ | refine awp_block ?_); (first | refine awp_region (by kernel_rfl) ?_); simp -implicitDefEqProofs (disch := (try simp only [sl]); try omega) only [sm, aNext, aSel, aNextL, aNextH, heldC, heldO, heldP, aWanted, isLight, aLight, apure, aread, bd, aload, look, aput, aHeavy, amark, aThen, aInBlock, aconvInt, abinO, abin, anil, aunop, aindexAddr, afieldAddr, afield, apart, aindex, aslice, loN, hiN, aextract, amakeIface, anilCheck, aminmax, amin2, amax2, ty, ↓reduceIte, Nat.reduceEqDiff, Nat.reduceAdd, Nat.reduceSub, Nat.reduceMul, Int.reduceLT, Int.reduceLE, Int.reduceNeg, Int.reduceToNat, reduceCtorEq, Nat.reduceBEq, Nat.reduceBNe, skipped, definite, Value.cells, am, mm, keep, aint, h1, h2, h3, h4, h5, h6, lk, ls])
          first | refine awp_ret ?_ | skip
          show ∃ v, aresults Try.prog Try.f11 _ _ = some v ∧ _
          rw [aresults_1 (r := .tmp 8) (by kernel_rfl)]
          simp -implicitDefEqProofs (disch := (try simp only [sl]); try omega) only [aresult, Option.some.injEq, exists_eq_left', sm, aNext, aSel, aNextL, aNextH, heldC, heldO, heldP, aWanted, isLight, aLight, apure, aread, bd, aload, look, aput, aHeavy, amark, aThen, aInBlock, aconvInt, abinO, abin, anil, aunop, aindexAddr, afieldAddr, afield, apart, aindex, aslice, loN, hiN, aextract, amakeIface, anilCheck, aminmax, amin2, amax2, ty, ↓reduceIte, Nat.reduceEqDiff, Nat.reduceAdd, Nat.reduceSub, Nat.reduceMul, Int.reduceLT, Int.reduceLE, Int.reduceNeg, Int.reduceToNat, reduceCtorEq, Nat.reduceBEq, Nat.reduceBNe, skipped, definite, Value.cells, am, mm, keep, aint]
          try simp [Far, h1, h2, h3, h4, h5, h6]
          try omega
        · -- (cursor back)
          -- R1
          iterate 1 ((repeat first | refine awp_seq ?_ | refine awp_block ?_); (first | refine awp_region (by kernel_rfl) ?_); simp -implicitDefEqProofs (disch := (try simp only [sl]); try omega) only [sm, aNext, aSel, aNextL, aNextH, heldC, heldO, heldP, aWanted, isLight, aLight, apure, aread, bd, aload, look, aput, aHeavy, amark, aThen, aInBlock, aconvInt, abinO, abin, anil, aunop, aindexAddr, afieldAddr, afield, apart, aindex, aslice, loN, hiN, aextract, amakeIface, anilCheck, aminmax, amin2, amax2, ty, ↓reduceIte, Nat.reduceEqDiff, Nat.reduceAdd, Nat.reduceSub, Nat.reduceMul, Int.reduceLT, Int.reduceLE, Int.reduceNeg, Int.reduceToNat, reduceCtorEq, Nat.reduceBEq, Nat.reduceBNe, skipped, definite, Value.cells, am, mm, keep, aint, h1, h2, h3, h4, h5, h6, lk, ls])
          first | refine awp_ret ?_ | skip
          show ∃ v, aresults Try.prog Try.f11 _ _ = some v ∧ _
          rw [aresults_1 (r := .tmp 8) (by kernel_rfl)]
          simp -implicitDefEqProofs (disch := (try simp only [sl]); try omega) only [aresult, Option.some.injEq, exists_eq_left', sm, aNext, aSel, aNextL, aNextH, heldC, heldO, heldP, aWanted, isLight, aLight, apure, aread, bd, aload, look, aput, aHeavy, amark, aThen, aInBlock, aconvInt, abinO, abin, anil, aunop, aindexAddr, afieldAddr, afield, apart, aindex, aslice, loN, hiN, aextract, amakeIface, anilCheck, aminmax, amin2, amax2, ty, ↓reduceIte, Nat.reduceEqDiff, Nat.reduceAdd, Nat.reduceSub, Nat.reduceMul, Int.reduceLT, Int.reduceLE, Int.reduceNeg, Int.reduceToNat, reduceCtorEq, Nat.reduceBEq, Nat.reduceBNe, skipped, definite, Value.cells, am, mm, keep, aint]
          try simp [Far, h1, h2, h3, h4, h5, h6]
          try omega
      · -- (cursor back)
        -- R1
        iterate 1 ((repeat first | refine awp_seq ?_ | refine awp_block ?_); (first | refine awp_region (by kernel_rfl) ?_); simp -implicitDefEqProofs (disch := (try simp only [sl]); try omega) only [sm, aNext, aSel, aNextL, aNextH, heldC, heldO, heldP, aWanted, isLight, aLight, apure, aread, bd, aload, look, aput, aHeavy, amark, aThen, aInBlock, aconvInt, abinO, abin, anil, aunop, aindexAddr, afieldAddr, afield, apart, aindex, aslice, loN, hiN, aextract, amakeIface, anilCheck, aminmax, amin2, amax2, ty, ↓reduceIte, Nat.reduceEqDiff, Nat.reduceAdd, Nat.reduceSub, Nat.reduceMul, Int.reduceLT, Int.reduceLE, Int.reduceNeg, Int.reduceToNat, reduceCtorEq, Nat.reduceBEq, Nat.reduceBNe, skipped, definite, Value.cells, am, mm, keep, aint, h1, h2, h3, h4, h5, lk, ls])
        first | refine awp_ret ?_ | skip
        show ∃ v, aresults Try.prog Try.f11 _ _ = some v ∧ _
        rw [aresults_1 (r := .tmp 8) (by kernel_rfl)]
        simp -implicitDefEqProofs (disch := (try simp only [sl]); try omega) only [aresult, Option.some.injEq, exists_eq_left', sm, aNext, aSel, aNextL, aNextH, heldC, heldO, heldP, aWanted, isLight, aLight, apure, aread, bd, aload, look, aput, aHeavy, amark, aThen, aInBlock, aconvInt, abinO, abin, anil, aunop, aindexAddr, afieldAddr, afield, apart, aindex, aslice, loN, hiN, aextract, amakeIface, anilCheck, aminmax, amin2, amax2, ty, ↓reduceIte, Nat.reduceEqDiff, Nat.reduceAdd, Nat.reduceSub, Nat.reduceMul, Int.reduceLT, Int.reduceLE, Int.reduceNeg, Int.reduceToNat, reduceCtorEq, Nat.reduceBEq, Nat.reduceBNe, skipped, definite, Value.cells, am, mm, keep, aint]
        try simp [Far, h1, h2, h3, h4, h5]
        try omega
  · skip
    by_cases h5 : z > 100
    · by_cases h6 : z ≤ 1024
      · -- (cursor back)
        -- R1
        iterate 1 ((repeat first | refine awp_seq ?_ | refine awp_block ?_); (first | refine awp_region (by kernel_rfl) ?_); simp -implicitDefEqProofs (disch := (try simp only [sl]); try omega) only [sm, aNext, aSel, aNextL, aNextH, heldC, heldO, heldP, aWanted, isLight, aLight, apure, aread, bd, aload, look, aput, aHeavy, amark, aThen, aInBlock, aconvInt, abinO, abin, anil, aunop, aindexAddr, afieldAddr, afield, apart, aindex, aslice, loN, hiN, aextract, amakeIface, anilCheck, aminmax, amin2, amax2, ty, ↓reduceIte, Nat.reduceEqDiff, Nat.reduceAdd, Nat.reduceSub, Nat.reduceMul, Int.reduceLT, Int.reduceLE, Int.reduceNeg, Int.reduceToNat, reduceCtorEq, Nat.reduceBEq, Nat.reduceBNe, skipped, definite, Value.cells, am, mm, keep, aint, h1, h2, h3, h5, h6, lk, ls])
        first | refine awp_ret ?_ | skip
        show ∃ v, aresults Try.prog Try.f11 _ _ = some v ∧ _
        rw [aresults_1 (r := .tmp 8) (by kernel_rfl)]
        simp -implicitDefEqProofs (disch := (try simp only [sl]); try omega) only [aresult, Option.some.injEq, exists_eq_left', sm, aNext, aSel, aNextL, aNextH, heldC, heldO, heldP, aWanted, isLight, aLight, apure, aread, bd, aload, look, aput, aHeavy, amark, aThen, aInBlock, aconvInt, abinO, abin, anil, aunop, aindexAddr, afieldAddr, afield, apart, aindex, aslice, loN, hiN, aextract, amakeIface, anilCheck, aminmax, amin2, amax2, ty, ↓reduceIte, Nat.reduceEqDiff, Nat.reduceAdd, Nat.reduceSub, Nat.reduceMul, Int.reduceLT, Int.reduceLE, Int.reduceNeg, Int.reduceToNat, reduceCtorEq, Nat.reduceBEq, Nat.reduceBNe, skipped, definite, Value.cells, am, mm, keep, aint]
        try simp [Far, h1, h2, h3, h5, h6]
        try omega
      · -- (cursor back)
        -- R1
        iterate 1 ((repeat first | refine awp_seq ?_ | refine awp_block ?_); (first | refine awp_region (by kernel_rfl) ?_); simp -implicitDefEqProofs (disch := (try simp only [sl]); try omega) only [sm, aNext, aSel, aNextL, aNextH, heldC, heldO, heldP, aWanted, isLight, aLight, apure, aread, bd, aload, look, aput, aHeavy, amark, aThen, aInBlock, aconvInt, abinO, abin, anil, aunop, aindexAddr, afieldAddr, afield, apart, aindex, aslice, loN, hiN, aextract, amakeIface, anilCheck, aminmax, amin2, amax2, ty, ↓reduceIte, Nat.reduceEqDiff, Nat.reduceAdd, Nat.reduceSub, Nat.reduceMul, Int.reduceLT, Int.reduceLE, Int.reduceNeg, Int.reduceToNat, reduceCtorEq, Nat.reduceBEq, Nat.reduceBNe, skipped, definite, Value.cells, am, mm, keep, aint, h1, h2, h3, h5, h6, lk, ls])
        first | refine awp_ret ?_ | skip
        show ∃ v, aresults Try.prog Try.f11 _ _ = some v ∧ _
        rw [aresults_1 (r := .tmp 8) (by kernel_rfl)]
        simp -implicitDefEqProofs (disch := (try simp only [sl]); try omega) only [aresult, Option.some.injEq, exists_eq_left', sm, aNext, aSel, aNextL, aNextH, heldC, heldO, heldP, aWanted, isLight, aLight, apure, aread, bd, aload, look, aput, aHeavy, amark, aThen, aInBlock, aconvInt, abinO, abin, anil, aunop, aindexAddr, afieldAddr, afield, apart, aindex, aslice, loN, hiN, aextract, amakeIface, anilCheck, aminmax, amin2, amax2, ty, ↓reduceIte, Nat.reduceEqDiff, Nat.reduceAdd, Nat.reduceSub, Nat.reduceMul, Int.reduceLT, Int.reduceLE, Int.reduceNeg, Int.reduceToNat, reduceCtorEq, Nat.reduceBEq, Nat.reduceBNe, skipped, definite, Value.cells, am, mm, keep, aint]
        try simp [Far, h1, h2, h3, h5, h6]
        try omega
    · -- (cursor back)
      -- R1
      iterate 1 ((repeat first | refine awp_seq ?_ | refine awp_block ?_); (first | refine awp_region (by kernel_rfl) ?_); simp -implicitDefEqProofs (disch := (try simp only [sl]); try omega) only [sm, aNext, aSel, aNextL, aNextH, heldC, heldO, heldP, aWanted, isLight, aLight, apure, aread, bd, aload, look, aput, aHeavy, amark, aThen, aInBlock, aconvInt, abinO, abin, anil, aunop, aindexAddr, afieldAddr, afield, apart, aindex, aslice, loN, hiN, aextract, amakeIface, anilCheck, aminmax, amin2, amax2, ty, ↓reduceIte, Nat.reduceEqDiff, Nat.reduceAdd, Nat.reduceSub, Nat.reduceMul, Int.reduceLT, Int.reduceLE, Int.reduceNeg, Int.reduceToNat, reduceCtorEq, Nat.reduceBEq, Nat.reduceBNe, skipped, definite, Value.cells, am, mm, keep, aint, h1, h2, h3, h5, lk, ls])
      first | refine awp_ret ?_ | skip
      show ∃ v, aresults Try.prog Try.f11 _ _ = some v ∧ _
      rw [aresults_1 (r := .tmp 8) (by kernel_rfl)]
      simp -implicitDefEqProofs (disch := (try simp only [sl]); try omega) only [aresult, Option.some.injEq, exists_eq_left', sm, aNext, aSel, aNextL, aNextH, heldC, heldO, heldP, aWanted, isLight, aLight, apure, aread, bd, aload, look, aput, aHeavy, amark, aThen, aInBlock, aconvInt, abinO, abin, anil, aunop, aindexAddr, afieldAddr, afield, apart, aindex, aslice, loN, hiN, aextract, amakeIface, anilCheck, aminmax, amin2, amax2, ty, ↓reduceIte, Nat.reduceEqDiff, Nat.reduceAdd, Nat.reduceSub, Nat.reduceMul, Int.reduceLT, Int.reduceLE, Int.reduceNeg, Int.reduceToNat, reduceCtorEq, Nat.reduceBEq, Nat.reduceBNe, skipped, definite, Value.cells, am, mm, keep, aint]
      try simp [Far, h1, h2, h3, h5]
      try omega
theorem lit1s {H : AH} {g : Nat} (b : UInt8) {c : Int} (hg : H[g]? = some (.own [.int .u8 c])) (hc : c = (b.toNat : Int)) : SL H (.slice (some ⟨g, 0, none⟩) 1 1) ([b].map U8) := by
  subst hc
  exact SL.own 1 rfl hg
theorem aeq32s (a b : List UInt8) (ha : a.length = 32) (hb : b.length = 32) : aeqAgg Try.prog 35 (a.map U8).toArray (b.map U8).toArray = some (decide (a = b)) := aeqB 35 32 (by kernel_rfl) (by kernel_rfl) (by kernel_rfl) a b ha hb
set_option maxHeartbeats 4000000 in
theorem stalive_calls (H : AH) : ACalls Try.prog 12 #[] H fun v H' => v = .bool true ∧ Ext H H' := by
  refine acalls_of_body Try.func12 rfl Try.ntmps12 (by simp) ?_
  simp only [argsT, Nat.reduceAdd]
  -- R0 R1
  iterate 2 ((repeat first | refine awp_seq ?_ | refine awp_block ?_); (first | refine awp_region (by kernel_rfl) ?_); simp -implicitDefEqProofs (disch := (try simp only [sl]); try omega) only [sm, aNext, aSel, aNextL, aNextH, heldC, heldO, heldP, aWanted, isLight, aLight, apure, aread, bd, aload, look, aput, aHeavy, amark, aThen, aInBlock, aconvInt, abinO, abin, anil, aunop, aindexAddr, afieldAddr, afield, apart, aindex, aslice, loN, hiN, aextract, amakeIface, anilCheck, aminmax, amin2, amax2, ty, ↓reduceIte, Nat.reduceEqDiff, Nat.reduceAdd, Nat.reduceSub, Nat.reduceMul, Int.reduceLT, Int.reduceLE, Int.reduceNeg, Int.reduceToNat, reduceCtorEq, Nat.reduceBEq, Nat.reduceBNe, skipped, definite, Value.cells, am, mm, keep])
  -- calls stretch.Key
  generalize hH1 : H ++ [ABlk.own [Value.int .u8 112]] ++ [ABlk.own [Value.int .u8 115]] = H1
  have x1 : Ext H H1 := by rw [← hH1]; exact (by repeat first | assumption | exact Ext.refl _ | exact Ext.pre (by assumption) | exact Ext.pre (Ext.pre (by assumption)) | exact Ext.pre (Ext.pre (Ext.pre (by assumption))) | exact Ext.pre (Ext.pre (Ext.pre (Ext.pre (by assumption)))) | apply Ext.pushed | refine Ext.both ?_ _ _ | refine Ext.set ?_ _ (by omega))
  have q0 : H1[H.length]? = some (.own [Value.int .u8 112]) := by rw [← hH1]; exact (by simp -implicitDefEqProofs (disch := (try simp only [sl]); try omega) only [sm, aNext, aSel, aNextL, aNextH, heldC, heldO, heldP, aWanted, isLight, aLight, apure, aread, bd, aload, look, aput, aHeavy, amark, aThen, aInBlock, aconvInt, abinO, abin, anil, aunop, aindexAddr, afieldAddr, afield, apart, aindex, aslice, loN, hiN, aextract, amakeIface, anilCheck, aminmax, amin2, amax2, ty, ↓reduceIte, Nat.reduceEqDiff, Nat.reduceAdd, Nat.reduceSub, Nat.reduceMul, Int.reduceLT, Int.reduceLE, Int.reduceNeg, Int.reduceToNat, reduceCtorEq, Nat.reduceBEq, Nat.reduceBNe, skipped, definite, Value.cells, am, mm, keep])
  have q1 : H1[H.length + 1]? = some (.own [Value.int .u8 115]) := by rw [← hH1]; exact (by simp -implicitDefEqProofs (disch := (try simp only [sl]); try omega) only [sm, aNext, aSel, aNextL, aNextH, heldC, heldO, heldP, aWanted, isLight, aLight, apure, aread, bd, aload, look, aput, aHeavy, amark, aThen, aInBlock, aconvInt, abinO, abin, anil, aunop, aindexAddr, afieldAddr, afield, apart, aindex, aslice, loN, hiN, aextract, amakeIface, anilCheck, aminmax, amin2, amax2, ty, ↓reduceIte, Nat.reduceEqDiff, Nat.reduceAdd, Nat.reduceSub, Nat.reduceMul, Int.reduceLT, Int.reduceLE, Int.reduceNeg, Int.reduceToNat, reduceCtorEq, Nat.reduceBEq, Nat.reduceBNe, skipped, definite, Value.cells, am, mm, keep])
  clear hH1
  refine ACalls.mono (stkey_calls _ _ [112] [115] 2 40 H1 (lit1s 112 q0 rfl) (lit1s 115 q1 rfl) (by decide) (by decide) (by decide) (by decide) (by decide) (by decide)) ?_
  rintro w H2 ⟨e2, ⟨hoff, _⟩ | ⟨-, u, rfl, hu⟩⟩
  · exact absurd hoff (by decide)
  -- (the other calls of the region are not made)
  have hkl := keyN_length [112] [115] 2 40
  have lu := alen_sl (P := Try.prog) (T := 22) (by simp only [ty]) hu
  rw [List.length_map, show (40 : Int).toNat = 40 from rfl, hkl] at lu
  try simp -implicitDefEqProofs (disch := (try simp only [sl]); try omega) only [sm, aNext, aSel, aNextL, aNextH, heldC, heldO, heldP, aWanted, isLight, aLight, apure, aread, bd, aload, look, aput, aHeavy, amark, aThen, aInBlock, aconvInt, abinO, abin, anil, aunop, aindexAddr, afieldAddr, afield, apart, aindex, aslice, loN, hiN, aextract, amakeIface, anilCheck, aminmax, amin2, amax2, ty, ↓reduceIte, Nat.reduceEqDiff, Nat.reduceAdd, Nat.reduceSub, Nat.reduceMul, Int.reduceLT, Int.reduceLE, Int.reduceNeg, Int.reduceToNat, reduceCtorEq, Nat.reduceBEq, Nat.reduceBNe, skipped, definite, Value.cells, am, mm, keep]
  -- R2
  iterate 1 ((repeat first | refine awp_seq ?_ | refine awp_block ?_); (first | refine awp_region (by kernel_rfl) ?_); simp -implicitDefEqProofs (disch := (try simp only [sl]); try omega) only [sm, aNext, aSel, aNextL, aNextH, heldC, heldO, heldP, aWanted, isLight, aLight, apure, aread, bd, aload, look, aput, aHeavy, amark, aThen, aInBlock, aconvInt, abinO, abin, anil, aunop, aindexAddr, afieldAddr, afield, apart, aindex, aslice, loN, hiN, aextract, amakeIface, anilCheck, aminmax, amin2, amax2, ty, ↓reduceIte, Nat.reduceEqDiff, Nat.reduceAdd, Nat.reduceSub, Nat.reduceMul, Int.reduceLT, Int.reduceLE, Int.reduceNeg, Int.reduceToNat, reduceCtorEq, Nat.reduceBEq, Nat.reduceBNe, skipped, definite, Value.cells, am, mm, keep])
  -- calls stretch.Key
  refine ACalls.mono (stkey_calls _ _ [] [] 0 1 H2 (.inl ⟨rfl, rfl⟩) (.inl ⟨rfl, rfl⟩) (by decide) (by decide) (by decide) (by decide) (by decide) (by decide)) ?_
  rintro w2 H3 ⟨e3, ⟨-, rfl⟩ | ⟨hoff, _⟩⟩
  · skip
    -- (the other calls of the region are not made)
    try simp -implicitDefEqProofs (disch := (try simp only [sl]); try omega) only [sm, aNext, aSel, aNextL, aNextH, heldC, heldO, heldP, aWanted, isLight, aLight, apure, aread, bd, aload, look, aput, aHeavy, amark, aThen, aInBlock, aconvInt, abinO, abin, anil, aunop, aindexAddr, afieldAddr, afield, apart, aindex, aslice, loN, hiN, aextract, amakeIface, anilCheck, aminmax, amin2, amax2, ty, ↓reduceIte, Nat.reduceEqDiff, Nat.reduceAdd, Nat.reduceSub, Nat.reduceMul, Int.reduceLT, Int.reduceLE, Int.reduceNeg, Int.reduceToNat, reduceCtorEq, Nat.reduceBEq, Nat.reduceBNe, skipped, definite, Value.cells, am, mm, keep]
    -- R3
    iterate 1 ((repeat first | refine awp_seq ?_ | refine awp_block ?_); (first | refine awp_region (by kernel_rfl) ?_); simp -implicitDefEqProofs (disch := (try simp only [sl]); try omega) only [sm, aNext, aSel, aNextL, aNextH, heldC, heldO, heldP, aWanted, isLight, aLight, apure, aread, bd, aload, look, aput, aHeavy, amark, aThen, aInBlock, aconvInt, abinO, abin, anil, aunop, aindexAddr, afieldAddr, afield, apart, aindex, aslice, loN, hiN, aextract, amakeIface, anilCheck, aminmax, amin2, amax2, ty, ↓reduceIte, Nat.reduceEqDiff, Nat.reduceAdd, Nat.reduceSub, Nat.reduceMul, Int.reduceLT, Int.reduceLE, Int.reduceNeg, Int.reduceToNat, reduceCtorEq, Nat.reduceBEq, Nat.reduceBNe, skipped, definite, Value.cells, am, mm, keep, lu])
    -- calls stretch.Join
    refine ACalls.mono (jn_calls (1 :: zb 31) (3 :: zb 31) _ rfl rfl) ?_
    rintro _ H4 ⟨rfl, e4⟩
    have hj : (joinB (1 :: zb 31) (3 :: zb 31)).getD 0 0 = 2 := rfl
    have hjl := joinB_length (1 :: zb 31) (3 :: zb 31)
    generalize joinB (1 :: zb 31) (3 :: zb 31) = jj at *
    have hu32 : Try.prog.underlying 35 = some (.array 32 5) := by kernel_rfl
    have h2 : ((UInt8.toNat 2 : Nat) : Int) = 2 := rfl
    try simp -implicitDefEqProofs (disch := (try simp only [sl]); try omega) only [sm, aNext, aSel, aNextL, aNextH, heldC, heldO, heldP, aWanted, isLight, aLight, apure, aread, bd, aload, look, aput, aHeavy, amark, aThen, aInBlock, aconvInt, abinO, abin, anil, aunop, aindexAddr, afieldAddr, afield, apart, aindex, aslice, loN, hiN, aextract, amakeIface, anilCheck, aminmax, amin2, amax2, ty, ↓reduceIte, Nat.reduceEqDiff, Nat.reduceAdd, Nat.reduceSub, Nat.reduceMul, Int.reduceLT, Int.reduceLE, Int.reduceNeg, Int.reduceToNat, reduceCtorEq, Nat.reduceBEq, Nat.reduceBNe, skipped, definite, Value.cells, am, mm, keep, hj, hjl, hu32, h2]
    first | refine awp_ret ?_ | skip
    show ∃ v, aresults Try.prog Try.f12 _ _ = some v ∧ _
    rw [aresults_1 (r := .tmp 0) (by kernel_rfl)]
    simp -implicitDefEqProofs (disch := (try simp only [sl]); try omega) only [aresult, Option.some.injEq, exists_eq_left', sm, aNext, aSel, aNextL, aNextH, heldC, heldO, heldP, aWanted, isLight, aLight, apure, aread, bd, aload, look, aput, aHeavy, amark, aThen, aInBlock, aconvInt, abinO, abin, anil, aunop, aindexAddr, afieldAddr, afield, apart, aindex, aslice, loN, hiN, aextract, amakeIface, anilCheck, aminmax, amin2, amax2, ty, ↓reduceIte, Nat.reduceEqDiff, Nat.reduceAdd, Nat.reduceSub, Nat.reduceMul, Int.reduceLT, Int.reduceLE, Int.reduceNeg, Int.reduceToNat, reduceCtorEq, Nat.reduceBEq, Nat.reduceBNe, skipped, definite, Value.cells, am, mm, keep]
    exact ((x1.trans e2).trans e3).trans e4
  · exact absurd (by decide) hoff
end Go.Proofs.Ytelpdppdhimfoaa
