/- What each statement of anchor asks besides: theirs, ours, alive; anchors told QA. -/
import Derived.Test.YtfhbieimffjjkaaDoorAh3
import Derived.Test.YtfhbieimffjjkaaDoorAh6
import Derived.Test.YtfhbieimffjjkaaDoorCsm
import Derived.Test.YtfhbieimffjjkaaDoorIn
namespace Go.Proofs.YtfhbieimffjjkaaDoor
open Go Go.RowKit
--hide
set_option linter.unusedSimpArgs false
set_option linter.unusedVariables false
set_option maxRecDepth 4000
theorem kin_u32 {d t : Nat} (e : UInt32) (h : Tryd.prog.underlying t = some (.int .u32)) : KIn Tryd.prog (d + 1) t [U32 e] := kin_int (k := .u32) (n := (e.toNat : Int)) h (wf32 e)
theorem kin_u64 {d t : Nat} (e : UInt64) (h : Tryd.prog.underlying t = some (.int .u64)) : KIn Tryd.prog (d + 1) t [U64 e] := kin_int (k := .u64) (n := (e.toNat : Int)) h (wf64 e)
theorem cell1 {l : List Value} {i : Nat} {v : Value} (h : l[i]? = some v) : (l.drop i).take 1 = [v] := by
  have hl := (List.getElem?_eq_some_iff.1 h).1
  rw [List.drop_eq_getElem_cons hl, List.take_succ_cons, List.take_zero, (List.getElem?_eq_some_iff.1 h).2]
theorem kin_a {T : Nat} {a : An} (hu : Tryd.prog.underlying T = Tryd.prog.underlying 55) (hc : Tryd.prog.cellsOf T = 71) (ha : a.wf) : KIn Tryd.prog 8 T (ac a) := by
  have hu : Tryd.prog.underlying T = _ := hu.trans (show Tryd.prog.underlying 55 = some (.struct #[{ name := "Version", type := 3, offset := 0, embedded := false, tag := "", pkgPath := "", byteOffset := 0 }, { name := "Pages", type := 3, offset := 1, embedded := false, tag := "", pkgPath := "", byteOffset := 8 }, { name := "Epoch", type := 52, offset := 2, embedded := false, tag := "", pkgPath := "", byteOffset := 16 }, { name := "HeadPlace", type := 3, offset := 3, embedded := false, tag := "", pkgPath := "", byteOffset := 24 }, { name := "Head", type := 53, offset := 4, embedded := false, tag := "", pkgPath := "", byteOffset := 32 }, { name := "RootPlace", type := 3, offset := 36, embedded := false, tag := "", pkgPath := "", byteOffset := 64 }, { name := "RootEpoch", type := 52, offset := 37, embedded := false, tag := "", pkgPath := "", byteOffset := 72 }, { name := "Root", type := 53, offset := 38, embedded := false, tag := "", pkgPath := "", byteOffset := 76 }, { name := "Commits", type := 31, offset := 70, embedded := false, tag := "", pkgPath := "", byteOffset := 112 }]) by kernel_rfl)
  have c1 : Tryd.prog.cellsOf 3 = 1 := by kernel_rfl
  have c2 : Tryd.prog.cellsOf 52 = 1 := by kernel_rfl
  have c3 : Tryd.prog.cellsOf 53 = 32 := by kernel_rfl
  have c4 : Tryd.prog.cellsOf 31 = 1 := by kernel_rfl
  have d0 := cell1 (ac_v a)
  have d1 := cell1 (ac_pg a)
  have d2 := cell1 (ac_ep a)
  have d3 := cell1 (ac_hp a)
  have d4 := ac_hd ha
  have d5 := cell1 (ac_rp ha)
  have d6 := cell1 (ac_re ha)
  have d7 := ac_rt ha
  have d8 := cell1 (ac_cm ha)
  obtain ⟨h1, h2, hv, hpg, hhp, hrp⟩ := ha
  have ha : a.wf := ⟨h1, h2, hv, hpg, hhp, hrp⟩
  unfold KIn
  simp only [hu, hc, ac_length ha, true_and]
  refine ⟨by kernel_rfl, ?_, fun f hf => ?_⟩
  · simp only [List.map_cons, List.map_nil, c1, c2, c3, c4, d0, d1, d2, d3, d4, d5, d6, d7, d8, List.flatten_cons, List.flatten_nil, List.append_nil]; rfl
  · simp only [List.mem_cons, List.not_mem_nil, or_false] at hf
    rcases hf with rfl | rfl | rfl | rfl | rfl | rfl | rfl | rfl | rfl
    · simp only [c1, d0]; exact kin_int (d := 6) (by kernel_rfl) (wfi _ hv.1 hv.2)
    · simp only [c1, d1]; exact kin_int (d := 6) (by kernel_rfl) (wfi _ hpg.1 hpg.2)
    · simp only [c2, d2]; exact kin_u32 (d := 6) _ (by kernel_rfl)
    · simp only [c1, d3]; exact kin_int (d := 6) (by kernel_rfl) (wfi _ hhp.1 hhp.2)
    · simp only [c3, d4]; exact kin_bytes (d := 5) (n := 32) (e := 5) (by kernel_rfl) (by kernel_rfl) (by kernel_rfl) c3 _ h1
    · simp only [c1, d5]; exact kin_int (d := 6) (by kernel_rfl) (wfi _ hrp.1 hrp.2)
    · simp only [c2, d6]; exact kin_u32 (d := 6) _ (by kernel_rfl)
    · simp only [c3, d7]; exact kin_bytes (d := 5) (n := 32) (e := 5) (by kernel_rfl) (by kernel_rfl) (by kernel_rfl) c3 _ h2
    · simp only [c4, d8]; exact kin_u64 (d := 6) _ (by kernel_rfl)
theorem aeqa {a : An} (ha : a.wf) : aeqAgg Tryd.prog 57 (ac a).toArray (ac a).toArray = some true :=
  aeq_same (kin_a (by kernel_rfl) (by kernel_rfl) ha) (by kernel_rfl) (by kernel_rfl) (by kernel_rfl)
theorem aeqar {a : An} (ha : a.wf) : aeqAgg Tryd.prog 55 (ac a).toArray (ac a).toArray = some true :=
  aeq_same (kin_a rfl (by kernel_rfl) ha) (by kernel_rfl) (by kernel_rfl) (by kernel_rfl)
theorem theirs_calls (a : An) (H : AH) (ha : a.wf) : ACalls Tryd.prog 38 #[.agg (ac a).toArray] H fun w H' => w = .agg (ac a).toArray ∧ Ext H H' := by
  have hal := ac_length ha
  have hac := ac_cellv a
  have htk := ac_take ha
  have hov := ac_ovr zero_wf ha
  have hzl := ac_length zero_wf
  have hzc := ac_cellv An.zero
  have fo_ : True := trivial
  have N_ := Now.start H
  have f_ := N_.has
  simp only [Has] at f_
  refine acalls_of_body Tryd.func38 rfl Tryd.ntmps38 (by simp) ?_
  simp only [argsT, Nat.reduceAdd]
  iterate 1 ((repeat first | refine Qo ?_ | refine Qn ?_); (first | (refine QK (by kernel_rfl) ?_; intro K_ hK_; simp -implicitDefEqProofs (disch := (try simp only [sl]); try omega) only [sm,QJ,Qj,Qi,Qq,QC,bd,look,aput,ty,↓reduceIte,Nat.reduceEqDiff,Nat.reduceAdd,Nat.reduceSub,Nat.reduceMul,Int.reduceLT,Int.reduceLE,Int.reduceNeg,Int.reduceToNat,reduceCtorEq,Nat.reduceBEq,Nat.reduceBNe,Qk,Qe,Value.cells,am,mm,keep, f_, fo_, zA, hal, hac, htk, hov, hzl, hzc]; refine hK_ _ _ ?_; clear hK_ K_; repeat first | refine QL ?_ | refine QM ?_)))
  first | refine AWp.snap8 N_ ?_ | refine AWp.snap7 N_ ?_ | refine AWp.snap6 N_ ?_ | refine AWp.snap5 N_ ?_ | refine AWp.snap4 N_ ?_ | refine AWp.snap3 N_ ?_ | refine AWp.snap2 N_ ?_ | refine AWp.snap1 N_ ?_
  clear fo_; have fo_ := f_; clear f_ N_; intro H1 xH1 lH1 N_
  have f_ := N_.has
  simp only [Has] at f_
  iterate 1 ((repeat first | refine Qo ?_ | refine Qn ?_); (first | (refine QK (by kernel_rfl) ?_; intro K_ hK_; simp -implicitDefEqProofs (disch := (try simp only [sl]); try omega) only [sm,QJ,Qj,Qi,Qq,QC,Qz,bd,QF,look,aput,Qm,QA,ty,↓reduceIte,Nat.reduceEqDiff,Nat.reduceAdd,Nat.reduceSub,Nat.reduceMul,Int.reduceLT,Int.reduceLE,Int.reduceNeg,Int.reduceToNat,reduceCtorEq,Nat.reduceBEq,Nat.reduceBNe,Qk,Qe,Value.cells,am,mm,keep, f_, fo_, zA, hal, hac, htk, hov, hzl, hzc]; refine hK_ _ _ ?_; clear hK_ K_; repeat first | refine QL ?_ | refine QM ?_)))
  first | refine awp_ret ?_ | skip
  show ∃ v, aresults Tryd.prog Tryd.f38 _ _ = some v ∧ _
  rw [aresults_1 (r := .cell 2 57) (by kernel_rfl)]
  simp -implicitDefEqProofs (disch := (try simp only [sl]); try omega) only [aresult, Option.some.injEq, exists_eq_left', sm,Qj,Qi,Qq,QC,Qz,bd,QF,look,aput,QB,Qf,QA,ty,↓reduceIte,Nat.reduceEqDiff,Nat.reduceAdd,Nat.reduceSub,Nat.reduceMul,Int.reduceLT,Int.reduceLE,Int.reduceNeg,Int.reduceToNat,reduceCtorEq,Nat.reduceBEq,Nat.reduceBNe,Qk,Qe,Value.cells,am,mm,keep, f_, fo_, zA, hal, hac, htk, hov, hzl, hzc]
  exact N_.ext.set _ (by omega)
theorem ours_calls (a : An) (H : AH) (ha : a.wf) : ACalls Tryd.prog 45 #[.agg (ac a).toArray] H fun w H' => w = .agg (ac a).toArray ∧ Ext H H' := by
  have hal := ac_length ha
  have hac := ac_cellv a
  have htk := ac_take ha
  have hov := ac_ovr zero_wf ha
  have hzl := ac_length zero_wf
  have hzc := ac_cellv An.zero
  have fo_ : True := trivial
  have N_ := Now.start H
  have f_ := N_.has
  simp only [Has] at f_
  refine acalls_of_body Tryd.func45 rfl Tryd.ntmps45 (by simp) ?_
  simp only [argsT, Nat.reduceAdd]
  iterate 1 ((repeat first | refine Qo ?_ | refine Qn ?_); (first | (refine QK (by kernel_rfl) ?_; intro K_ hK_; simp -implicitDefEqProofs (disch := (try simp only [sl]); try omega) only [sm,QJ,Qj,Qi,Qq,QC,bd,look,aput,ty,↓reduceIte,Nat.reduceEqDiff,Nat.reduceAdd,Nat.reduceSub,Nat.reduceMul,Int.reduceLT,Int.reduceLE,Int.reduceNeg,Int.reduceToNat,reduceCtorEq,Nat.reduceBEq,Nat.reduceBNe,Qk,Qe,Value.cells,am,mm,keep, f_, fo_, zAr, hal, hac, htk, hov, hzl, hzc]; refine hK_ _ _ ?_; clear hK_ K_; repeat first | refine QL ?_ | refine QM ?_)))
  first | refine AWp.snap8 N_ ?_ | refine AWp.snap7 N_ ?_ | refine AWp.snap6 N_ ?_ | refine AWp.snap5 N_ ?_ | refine AWp.snap4 N_ ?_ | refine AWp.snap3 N_ ?_ | refine AWp.snap2 N_ ?_ | refine AWp.snap1 N_ ?_
  clear fo_; have fo_ := f_; clear f_ N_; intro H1 xH1 lH1 N_
  have f_ := N_.has
  simp only [Has] at f_
  iterate 1 ((repeat first | refine Qo ?_ | refine Qn ?_); (first | (refine QK (by kernel_rfl) ?_; intro K_ hK_; simp -implicitDefEqProofs (disch := (try simp only [sl]); try omega) only [sm,QJ,Qj,Qi,Qq,QC,Qz,bd,QF,look,aput,Qm,QA,ty,↓reduceIte,Nat.reduceEqDiff,Nat.reduceAdd,Nat.reduceSub,Nat.reduceMul,Int.reduceLT,Int.reduceLE,Int.reduceNeg,Int.reduceToNat,reduceCtorEq,Nat.reduceBEq,Nat.reduceBNe,Qk,Qe,Value.cells,am,mm,keep, f_, fo_, zAr, hal, hac, htk, hov, hzl, hzc]; refine hK_ _ _ ?_; clear hK_ K_; repeat first | refine QL ?_ | refine QM ?_)))
  first | refine awp_ret ?_ | skip
  show ∃ v, aresults Tryd.prog Tryd.f45 _ _ = some v ∧ _
  rw [aresults_1 (r := .cell 2 55) (by kernel_rfl)]
  simp -implicitDefEqProofs (disch := (try simp only [sl]); try omega) only [aresult, Option.some.injEq, exists_eq_left', sm,Qj,Qi,Qq,QC,Qz,bd,QF,look,aput,QB,Qf,QA,ty,↓reduceIte,Nat.reduceEqDiff,Nat.reduceAdd,Nat.reduceSub,Nat.reduceMul,Int.reduceLT,Int.reduceLE,Int.reduceNeg,Int.reduceToNat,reduceCtorEq,Nat.reduceBEq,Nat.reduceBNe,Qk,Qe,Value.cells,am,mm,keep, f_, fo_, zAr, hal, hac, htk, hov, hzl, hzc]
  exact N_.ext.set _ (by omega)
theorem an_arg {H : AH} {v : Value} (h : AVal Tryd.prog H 55 v) : ∃ a : An, v = .agg (ac a).toArray ∧ a.wf := by
  obtain ⟨x, hv, hk⟩ := arg55 h
  obtain ⟨v, pg, ep, hp, hd, rp, re, rt, cm⟩ := x
  obtain ⟨kv, kp, -, kh, kd, kr, -, kt, -⟩ := hk
  exact ⟨⟨v, pg, ep, hp, hd, rp, re, rt, cm⟩, by rw [hv]; rfl, kd, kt, kv, kp, kh, kr⟩
def anA : An := ⟨1, 5, 7, 0, zb 32, 0, 7, zb 32, 3⟩
def anB : An := ⟨3, 1, 0, 0, zb 32, 0, 0, zb 32, 0⟩
theorem anA_wf : anA.wf := by
  refine ⟨rfl, rfl, ?_, ?_, ?_, ?_⟩ <;> (unfold inI; simp only [anA]; omega)
theorem anB_wf : anB.wf := by
  refine ⟨rfl, rfl, ?_, ?_, ?_, ?_⟩ <;> (unfold inI; simp only [anB]; omega)
theorem anA_may : anA.may := by unfold An.may anA; decide
theorem anB_may : ¬ anB.may := fun h => absurd h.1.2 (by decide)
set_option maxHeartbeats 8000000 in
theorem aalive_calls (H : AH) : ACalls Tryd.prog 42 #[] H fun w H' => w = .bool true ∧ Ext H H' := by
  have hA : Value.int .i64 1 :: Value.int .i64 5 :: Value.int .u32 7 :: Value.int .i64 0 :: (List.replicate 32 (Value.int .u8 0) ++ (Value.int .i64 0 :: Value.int .u32 7 :: (List.replicate 32 (Value.int .u8 0) ++ [Value.int .u64 3]))) = ac anA := rfl
  have hB : Value.int .i64 3 :: Value.int .i64 1 :: Value.int .u32 0 :: Value.int .i64 0 :: (List.replicate 32 (Value.int .u8 0) ++ (Value.int .i64 0 :: Value.int .u32 0 :: (List.replicate 32 (Value.int .u8 0) ++ [Value.int .u64 0]))) = ac anB := rfl
  simp only [List.replicate, List.cons_append, List.nil_append] at hA hB
  have wA := anA_wf
  have wB := anB_wf
  have mA := anA_may
  have mB := anB_may
  have b0 : anA.bytes.getD 0 0 = 1 := rfl
  have b1 : anA.bytes.getD 1 0 = 5 := rfl
  have hbl := abytes_length wA
  have hok := okA_bytes wA mA
  have hof := of_bytes wA mA
  have hE : layE anA = 0 := by rw [layE, if_pos mA]
  have hL : layA anA = anA.bytes := by rw [layA, if_pos mA]
  have hP : parA anA.bytes = anA := by rw [parA, if_pos hok, hof]
  have hQ : parE anA.bytes = 0 := by rw [parE, if_pos hok]
  generalize anA = A at *
  generalize anB = B at *
  have hal := ac_length wA
  have hac := ac_cellv A
  have htk := ac_take wA
  have hov := ac_ovr zero_wf wA
  have hzl := ac_length zero_wf
  have hbl' := ac_length wB
  have hbc := ac_cellv B
  have hq := aeqa wA
  have hii : ∀ n : Int, (n == n) = true := fun n => by simp
  have fo_ : True := trivial
  have N_ := Now.start H
  have f_ := N_.has
  simp only [Has] at f_
  refine acalls_of_body Tryd.func42 rfl Tryd.ntmps42 (by simp) ?_
  simp only [argsT, Nat.reduceAdd]
  iterate 2 ((repeat first | refine Qo ?_ | refine Qn ?_); (first | (refine QK (by kernel_rfl) ?_; intro K_ hK_; simp -implicitDefEqProofs (disch := (try simp only [sl]); try omega) only [sm,QJ,Qj,Qi,Qq,QC,bd,look,aput,Qm,ty,↓reduceIte,Nat.reduceEqDiff,Nat.reduceAdd,Nat.reduceSub,Nat.reduceMul,Int.reduceLT,Int.reduceLE,Int.reduceNeg,Int.reduceToNat,reduceCtorEq,Nat.reduceBEq,Nat.reduceBNe,Qk,Qe,Value.cells,am,mm,keep, f_, fo_, bd, hA, hB, zA, hal, hac, htk, hov, hzl, aint]; refine hK_ _ _ ?_; clear hK_ K_; repeat first | refine QL ?_ | refine QM ?_)))
  first | refine AWp.snap8 N_ ?_ | refine AWp.snap7 N_ ?_ | refine AWp.snap6 N_ ?_ | refine AWp.snap5 N_ ?_ | refine AWp.snap4 N_ ?_ | refine AWp.snap3 N_ ?_ | refine AWp.snap2 N_ ?_ | refine AWp.snap1 N_ ?_
  clear fo_; have fo_ := f_; clear f_ N_; intro H1 xH1 lH1 N_
  have f_ := N_.has
  simp only [Has] at f_
  (repeat first | refine Qo ?_ | refine Qn ?_); refine QK (by kernel_rfl) ?_; intro K_ hK_; simp -implicitDefEqProofs (disch := (try simp only [sl]); try omega) only [sm,QJ,Qj,Qi,Qq,QC,Qz,bd,QF,look,aput,Qm,QA,Qh,ty,↓reduceIte,Nat.reduceEqDiff,Nat.reduceAdd,Nat.reduceSub,Nat.reduceMul,Int.reduceLT,Int.reduceLE,Int.reduceNeg,Int.reduceToNat,reduceCtorEq,Nat.reduceBEq,Nat.reduceBNe,Qk,Qe,Value.cells,am,mm,keep, f_, fo_, bd, hA, hB, zA, hal, hac, htk, hov, hzl, aint]
  refine ACalls.mono (alay_calls A H1 wA) ?_
  rintro _ H2 ⟨x, rfl, o2, e2⟩
  rw [hE]
  rw [hL] at o2
  replace N_ := N_.grow e2
  clear fo_; have fo_ := f_; clear f_
  have f_ := N_.has
  simp only [Has] at f_
  try simp -implicitDefEqProofs (disch := (try simp only [sl]); try omega) only [sm,QJ,Qj,Qi,Qq,QC,Qz,bd,QF,look,aput,Qm,QA,Qh,ty,↓reduceIte,Nat.reduceEqDiff,Nat.reduceAdd,Nat.reduceSub,Nat.reduceMul,Int.reduceLT,Int.reduceLE,Int.reduceNeg,Int.reduceToNat,reduceCtorEq,Nat.reduceBEq,Nat.reduceBNe,Qk,Qe,Value.cells,am,mm,keep, f_, fo_, bd, hA, hB, zA, hal, hac, htk, hov, hzl, aint]
  try (refine hK_ _ _ ?_; clear hK_ K_; repeat first | refine QL ?_ | refine QM ?_)
  (repeat first | refine Qo ?_ | refine Qn ?_); refine QK (by kernel_rfl) ?_; intro K_ hK_; simp -implicitDefEqProofs (disch := (try simp only [sl]); try omega) only [sm,QJ,Qj,Qi,Qq,QC,bd,look,aput,Qm,Qh,ty,↓reduceIte,Nat.reduceEqDiff,Nat.reduceAdd,Nat.reduceSub,Nat.reduceMul,Int.reduceLT,Int.reduceLE,Int.reduceNeg,Int.reduceToNat,reduceCtorEq,Nat.reduceBEq,Nat.reduceBNe,Qk,Qe,Value.cells,am,mm,keep, f_, fo_, bd, hA, hB, zA, hal, hac, htk, hov, hzl, aint]
  refine ACalls.mono (aparse_calls x _ H2 o2.sl (by rw [hbl]; decide)) ?_
  rintro _ H3 ⟨rfl, e3⟩
  rw [hP, hQ]
  replace N_ := N_.grow e3
  clear fo_; have fo_ := f_; clear f_
  have f_ := N_.has
  simp only [Has] at f_
  have lx := alen_sl (P := Tryd.prog) (T := 22) (by simp only [ty]) o2.sl
  rw [List.length_map, hbl] at lx
  obtain ⟨g, o, e', cs, rfl, hcs, hg, h1, hk1, hk0⟩ := (o2.sl.mono e3).bytes (by omega)
  have q0 : cs[o]? = some (.int .u8 1) := by rw [hk0, b0]; rfl
  have q1 : cs[o + 1]? = some (.int .u8 5) := by rw [hk1 1 (by omega), b1]; rfl
  rw [hbl] at *
  try simp -implicitDefEqProofs (disch := (try simp only [sl]); try omega) only [sm,QJ,Qj,Qi,Qq,QC,bd,look,aput,Qm,Qh,ty,↓reduceIte,Nat.reduceEqDiff,Nat.reduceAdd,Nat.reduceSub,Nat.reduceMul,Int.reduceLT,Int.reduceLE,Int.reduceNeg,Int.reduceToNat,reduceCtorEq,Nat.reduceBEq,Nat.reduceBNe,Qk,Qe,Value.cells,am,mm,keep, f_, fo_, bd, hA, hB, zA, hal, hac, htk, hov, hzl, aint]
  try (refine hK_ _ _ ?_; clear hK_ K_; repeat first | refine QL ?_ | refine QM ?_)
  first | refine AWp.snap8 N_ ?_ | refine AWp.snap7 N_ ?_ | refine AWp.snap6 N_ ?_ | refine AWp.snap5 N_ ?_ | refine AWp.snap4 N_ ?_ | refine AWp.snap3 N_ ?_ | refine AWp.snap2 N_ ?_ | refine AWp.snap1 N_ ?_
  clear fo_; have fo_ := f_; clear f_ N_; intro H4 xH4 lH4 N_
  have f_ := N_.has
  simp only [Has] at f_
  have hcs4 := xH4.cells hcs
  (repeat first | refine Qo ?_ | refine Qn ?_); refine QK (by kernel_rfl) ?_; intro K_ hK_; simp -implicitDefEqProofs (disch := (try simp only [sl]); try omega) only [sm,QJ,Qj,Qi,Qq,QC,Qz,bd,QF,look,aput,Qm,QI,abin,anil,QG,Qb,QA,ty,↓reduceIte,Nat.reduceEqDiff,Nat.reduceAdd,Nat.reduceSub,Nat.reduceMul,Int.reduceLT,Int.reduceLE,Int.reduceNeg,Int.reduceToNat,reduceCtorEq,Nat.reduceBEq,Nat.reduceBNe,Qk,Qe,Value.cells,am,mm,keep, f_, fo_, bd, hA, hB, zA, hal, hac, htk, hov, hzl, aint, lx, hcs4, q0, q1, hii, hq]
  refine ACalls.mono (may_calls B H4 wB) ?_
  rintro _ H5 ⟨rfl, e5⟩
  replace N_ := N_.grow e5
  clear fo_; have fo_ := f_; clear f_
  have f_ := N_.has
  simp only [Has] at f_
  try simp -implicitDefEqProofs (disch := (try simp only [sl]); try omega) only [sm,QJ,Qj,Qi,Qq,QC,Qz,bd,QF,look,aput,Qm,QI,abin,anil,QG,Qb,QA,ty,↓reduceIte,Nat.reduceEqDiff,Nat.reduceAdd,Nat.reduceSub,Nat.reduceMul,Int.reduceLT,Int.reduceLE,Int.reduceNeg,Int.reduceToNat,reduceCtorEq,Nat.reduceBEq,Nat.reduceBNe,Qk,Qe,Value.cells,am,mm,keep, f_, fo_, bd, hA, hB, zA, hal, hac, htk, hov, hzl, aint, lx, hcs4, q0, q1, hii, hq, decide_eq_false mB]
  try (refine hK_ _ _ ?_; clear hK_ K_; repeat first | refine QL ?_ | refine QM ?_)
  first | refine awp_ret ?_ | skip
  show ∃ v, aresults Tryd.prog Tryd.f42 _ _ = some v ∧ _
  rw [aresults_1 (r := .tmp 0) (by kernel_rfl)]
  simp -implicitDefEqProofs (disch := (try simp only [sl]); try omega) only [aresult, Option.some.injEq, exists_eq_left', sm,Qj,Qi,Qq,QC,Qz,bd,QF,look,aput,QB,Qf,QA,ty,↓reduceIte,Nat.reduceEqDiff,Nat.reduceAdd,Nat.reduceSub,Nat.reduceMul,Int.reduceLT,Int.reduceLE,Int.reduceNeg,Int.reduceToNat,reduceCtorEq,Nat.reduceBEq,Nat.reduceBNe,Qk,Qe,Value.cells,am,mm,keep, f_, fo_, bd, hA, hB, zA, hal, hac, htk, hov, hzl, aint, lx, hcs4, q0, q1, hii, hq]
  exact ⟨rfl, N_.ext⟩
end Go.Proofs.YtfhbieimffjjkaaDoor
