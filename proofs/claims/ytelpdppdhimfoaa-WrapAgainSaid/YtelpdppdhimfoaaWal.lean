/- What each statement of the wrapped keys asks besides: far, ours, theirs, alive. -/
import Derived.Test.YtelpdppdhimfoaaWp7
import Derived.Test.YtelpdppdhimfoaaC8
import Derived.Test.YtelpdppdhimfoaaIn
namespace Go.Proofs.Ytelpdppdhimfoaa
open Go Go.RowKit
--hide
set_option linter.unusedSimpArgs false
set_option linter.unusedVariables false
set_option maxRecDepth 4000
theorem turn_turn (ks ns : List UInt8) (c : UInt32) (bs : List UInt8) : turnB ks ns c (turnB ks ns c bs) = bs := by
  apply List.ext_getElem?
  intro i
  by_cases h : i < bs.length
  · have h1 : i < (turnB ks ns c bs).length := by rw [turnB_length]; exact h
    rw [turnB, List.getElem?_map, List.getElem?_range h1, Option.map_some, xorAt]
    have e1 : (turnB ks ns c bs).getD i 0 = xorAt ks ns c bs i := by
      rw [List.getD_eq_getElem?_getD, turnB, List.getElem?_map, List.getElem?_range h]; rfl
    rw [e1, xorAt, UInt8.xor_assoc, UInt8.xor_self, UInt8.xor_zero, List.getD_eq_getElem?_getD, List.getElem?_eq_getElem h]; rfl
  · rw [List.getElem?_eq_none (by rw [turnB_length, turnB_length]; omega), List.getElem?_eq_none (by omega)]
theorem unw_wrap (p s : List UInt8) (r : Int) (m : List UInt8) (h : inR r) : unwK p (wrapS s r) (wrapR r) (wrapK p s r m) (wrapC p s r m) = m ∧ unwE p (wrapS s r) (wrapR r) (wrapK p s r m) (wrapC p s r m) = 0 := by
  rw [wrapS, wrapR, wrapK, wrapC, if_pos h, if_pos h, if_pos h, if_pos h, unwK, unwE, if_pos ⟨h, rfl⟩, if_pos h, if_pos rfl]
  exact ⟨turn_turn _ _ _ _, rfl⟩
theorem aeq32r (a : List UInt8) (h : a.length = 32) : aeqAgg Try.prog 35 (a.map U8).toArray (a.map U8).toArray = some true := by rw [aeq32 a a h h]; simp
theorem aeq16r (a : List UInt8) (h : a.length = 16) : aeqAgg Try.prog 42 (a.map U8).toArray (a.map U8).toArray = some true := by
  rw [aeqB 42 16 (by kernel_rfl) (by kernel_rfl) (by kernel_rfl) a a h h]; simp
theorem wcells_flat {s : List UInt8} {r : Int} {k c : List UInt8} (h : WK.ok ⟨s, r, k, c⟩) : ([((wcells s r k c).drop 0).take 16, ((wcells s r k c).drop 16).take 1, ((wcells s r k c).drop 17).take 32, ((wcells s r k c).drop 49).take 32] : List (List Value)).flatten = wcells s r k c ∧ ((wcells s r k c).drop 16).take 1 = [.int .i64 r] := by
  have h1 : s.length = 16 := h.1
  have hr : ((wcells s r k c).drop 16).take 1 = [.int .i64 r] := by
    have := wcells_r h
    rw [List.drop_eq_getElem_cons (by rw [wcells_length h]; decide)]
    rw [List.getElem?_eq_getElem (by rw [wcells_length h]; decide)] at this
    injection this with this
    rw [this]; rfl
  rw [hr, wcells_s' h, wcells_k h, wcells_c h]
  exact ⟨by rw [wcells]; simp, rfl⟩
theorem kin_w50 {s : List UInt8} {r : Int} {k c : List UInt8} (h : WK.ok ⟨s, r, k, c⟩) (h0 : -9223372036854775808 ≤ r) (h1 : r ≤ 9223372036854775807) : KIn Try.prog 8 50 (wcells s r k c) := by
  have hu : Try.prog.underlying 50 = some (.struct #[{ name := "Salt", type := 42, offset := 0, embedded := false, tag := "", pkgPath := "", byteOffset := 0 }, { name := "Rounds", type := 3, offset := 16, embedded := false, tag := "", pkgPath := "", byteOffset := 16 }, { name := "Key", type := 35, offset := 17, embedded := false, tag := "", pkgPath := "", byteOffset := 24 }, { name := "Check", type := 35, offset := 49, embedded := false, tag := "", pkgPath := "", byteOffset := 56 }]) := by kernel_rfl
  have hc : Try.prog.cellsOf 50 = 81 := by kernel_rfl
  have c1 : Try.prog.cellsOf 42 = 16 := by kernel_rfl
  have c2 : Try.prog.cellsOf 35 = 32 := by kernel_rfl
  have c3 : Try.prog.cellsOf 3 = 1 := by kernel_rfl
  obtain ⟨hf, hr⟩ := wcells_flat h
  unfold KIn
  simp only [hu, hc, wcells_length h, true_and]
  refine ⟨by kernel_rfl, by simpa only [List.map_cons, List.map_nil, c1, c2, c3] using hf, fun f hf => ?_⟩
  simp only [List.mem_cons, List.not_mem_nil, or_false] at hf
  rcases hf with rfl | rfl | rfl | rfl
  · simp only [c1, wcells_s' h]; exact kin_bytes (d := 5) (n := 16) (e := 5) (by kernel_rfl) (by kernel_rfl) (by kernel_rfl) c1 _ h.1
  · simp only [c3, hr]; exact kin_int (d := 6) (by kernel_rfl) (wfi _ h0 h1)
  · simp only [c2, wcells_k h]; exact kin_bytes (d := 5) (n := 32) (e := 5) (by kernel_rfl) (by kernel_rfl) (by kernel_rfl) c2 _ h.2.1
  · simp only [c2, wcells_c h]; exact kin_bytes (d := 5) (n := 32) (e := 5) (by kernel_rfl) (by kernel_rfl) (by kernel_rfl) c2 _ h.2.2
theorem aeqw50 {s : List UInt8} {r : Int} {k c : List UInt8} (h : WK.ok ⟨s, r, k, c⟩) (h0 : -9223372036854775808 ≤ r) (h1 : r ≤ 9223372036854775807) : aeqAgg Try.prog 50 (wcells s r k c).toArray (wcells s r k c).toArray = some true :=
  aeq_same (kin_w50 h h0 h1) (by kernel_rfl) (by kernel_rfl) (by kernel_rfl)
theorem aeqw47z : aeqAgg Try.prog 47 (wcells (zb 16) 0 (zb 32) (zb 32)).toArray (wcells (zb 16) 0 (zb 32) (zb 32)).toArray = some true := by
  have hu : Try.prog.underlying 47 = some (.struct #[{ name := "Salt", type := 42, offset := 0, embedded := false, tag := "", pkgPath := "", byteOffset := 0 }, { name := "Rounds", type := 3, offset := 16, embedded := false, tag := "", pkgPath := "", byteOffset := 16 }, { name := "Key", type := 35, offset := 17, embedded := false, tag := "", pkgPath := "", byteOffset := 24 }, { name := "Check", type := 35, offset := 49, embedded := false, tag := "", pkgPath := "", byteOffset := 56 }]) := by kernel_rfl
  have hc : Try.prog.cellsOf 47 = 81 := by kernel_rfl
  have c1 : Try.prog.cellsOf 42 = 16 := by kernel_rfl
  have c2 : Try.prog.cellsOf 35 = 32 := by kernel_rfl
  have c3 : Try.prog.cellsOf 3 = 1 := by kernel_rfl
  have h := WK.zero_ok
  obtain ⟨hf, hr⟩ := wcells_flat h
  refine aeq_same ?_ (by kernel_rfl) (by kernel_rfl) (by kernel_rfl)
  unfold KIn
  simp only [hu, hc, wcells_length h, true_and]
  refine ⟨by kernel_rfl, by simpa only [List.map_cons, List.map_nil, c1, c2, c3] using hf, fun f hf => ?_⟩
  simp only [List.mem_cons, List.not_mem_nil, or_false] at hf
  rcases hf with rfl | rfl | rfl | rfl
  · simp only [c1, wcells_s' h]; exact kin_bytes (d := 5) (n := 16) (e := 5) (by kernel_rfl) (by kernel_rfl) (by kernel_rfl) c1 _ h.1
  · simp only [c3, hr]; exact kin_int (d := 6) (by kernel_rfl) (wfi _ (by decide) (by decide))
  · simp only [c2, wcells_k h]; exact kin_bytes (d := 5) (n := 32) (e := 5) (by kernel_rfl) (by kernel_rfl) (by kernel_rfl) c2 _ h.2.1
  · simp only [c2, wcells_c h]; exact kin_bytes (d := 5) (n := 32) (e := 5) (by kernel_rfl) (by kernel_rfl) (by kernel_rfl) c2 _ h.2.2
/-- The cells of what is asked. -/
def acells (v : Value) (s : List UInt8) (r : Int) (m : List UInt8) : List Value := [v] ++ (s.map U8 ++ ([.int .i64 r] ++ m.map U8))
section
variable {v : Value} {s : List UInt8} {r : Int} {m : List UInt8}
theorem acells_length (h1 : s.length = 16) (h2 : m.length = 32) : (acells v s r m).length = 50 := by
  simp only [acells, List.length_append, List.length_map, h1, h2, List.length_singleton]
theorem acells_v : (acells v s r m)[0]? = some v := rfl
theorem acells_s (h1 : s.length = 16) : ((acells v s r m).drop 1).take 16 = s.map U8 := by
  show List.take 16 (s.map U8 ++ _) = _
  rw [List.take_append_of_le_length (by rw [List.length_map, h1]; exact Nat.le_refl _), List.take_of_length_le (by rw [List.length_map, h1]; exact Nat.le_refl _)]
theorem acells_r (h1 : s.length = 16) : (acells v s r m)[17]? = some (.int .i64 r) := by
  show (s.map U8 ++ ([Value.int .i64 r] ++ m.map U8))[16]? = _
  rw [List.getElem?_append_right (by rw [List.length_map, h1]; exact Nat.le_refl _), List.length_map, h1]
  rfl
theorem acells_m (h1 : s.length = 16) (h2 : m.length = 32) : ((acells v s r m).drop 18).take 32 = m.map U8 := by
  show List.take 32 (List.drop 17 (s.map U8 ++ _)) = _
  rw [List.drop_append, List.length_map, h1, List.drop_of_length_le (by rw [List.length_map, h1]; decide)]
  show List.take 32 (m.map U8) = _
  rw [List.take_of_length_le (by rw [List.length_map, h2]; exact Nat.le_refl _)]
end
theorem ask10_arg {H : AH} {v : Value} (h : AVal Try.prog H 44 v) : ∃ (vk : Value) (p s : List UInt8) (r : Int) (m : List UInt8), v = .agg (acells vk s r m).toArray ∧ SL H vk (p.map U8) ∧ p.length ≤ maxLen ∧ s.length = 16 ∧ m.length = 32 ∧ -9223372036854775808 ≤ r ∧ r ≤ 9223372036854775807 := by
  obtain ⟨⟨⟨vk, p⟩, s, r, m⟩, hv1, ⟨hk, hkl⟩, hs, ⟨hr0, hr1⟩, hm⟩ := arg44 h
  exact ⟨vk, p, s, r, m, hv1, hk, hkl, hs, hm, hr0, hr1⟩
def FarW (p : List UInt8) (r : Int) : Prop := 200 < p.length ∨ 5 < r ∧ r ≤ 100
instance (p : List UInt8) (r : Int) : Decidable (FarW p r) := inferInstanceAs (Decidable (_ ∨ _))
set_option maxHeartbeats 4000000 in
theorem wfar_calls (v : Value) (p s : List UInt8) (r : Int) (m : List UInt8) (H : AH) (hv : SL H v (p.map U8)) (hs : s.length = 16) (hm : m.length = 32) :
    ACalls Try.prog 21 #[.agg (acells v s r m).toArray] H fun w H' => w = .bool (decide (FarW p r)) ∧ Ext H H' := by
  have hal := acells_length (v := v) (r := r) hs hm
  have hav := acells_v (v := v) (s := s) (r := r) (m := m)
  have har := acells_r (v := v) (r := r) (m := m) hs
  have lv := alen_sl (P := Try.prog) (T := 22) (by simp only [ty]) hv
  rw [List.length_map] at lv
  have fo_ : True := trivial
  have N_ := Now.start H
  have f_ := N_.has
  simp only [Has] at f_
  refine acalls_of_body Try.func21 rfl Try.ntmps21 (by simp) ?_
  simp only [argsT, Nat.reduceAdd]
  iterate 1 ((repeat first | refine Qo ?_ | refine Qn ?_); (first | (refine QK (by kernel_rfl) ?_; intro K_ hK_; simp -implicitDefEqProofs (disch := (try simp only [sl]); try omega) only [sm,QJ,Qj,Qi,Qq,QC,bd,look,aput,ty,↓reduceIte,Nat.reduceEqDiff,Nat.reduceAdd,Nat.reduceSub,Nat.reduceMul,Int.reduceLT,Int.reduceLE,Int.reduceNeg,Int.reduceToNat,reduceCtorEq,Nat.reduceBEq,Nat.reduceBNe,Qk,Qe,Value.cells,am,mm,keep, f_, aint, hav, har, hal, lv]; refine hK_ _ _ ?_; clear hK_ K_; repeat first | refine QL ?_ | refine QM ?_)))
  first | refine AWp.snap8 N_ ?_ | refine AWp.snap7 N_ ?_ | refine AWp.snap6 N_ ?_ | refine AWp.snap5 N_ ?_ | refine AWp.snap4 N_ ?_ | refine AWp.snap3 N_ ?_ | refine AWp.snap2 N_ ?_ | refine AWp.snap1 N_ ?_
  clear fo_; have fo_ := f_; clear f_ N_; intro H1 xH1 lH1 N_
  have f_ := N_.has
  simp only [Has] at f_
  have lv1 := alen_sl (P := Try.prog) (T := 22) (by simp only [ty]) (hv.mono xH1)
  rw [List.length_map] at lv1
  by_cases h1 : p.length > 200
  · -- R1
    iterate 1 ((repeat first | refine Qo ?_ | refine Qn ?_); (first | (refine QK (by kernel_rfl) ?_; intro K_ hK_; simp -implicitDefEqProofs (disch := (try simp only [sl]); try omega) only [sm,QJ,Qj,Qi,Qq,QC,Qz,bd,QF,look,aput,QI,abin,anil,Qc,QA,ty,↓reduceIte,Nat.reduceEqDiff,Nat.reduceAdd,Nat.reduceSub,Nat.reduceMul,Int.reduceLT,Int.reduceLE,Int.reduceNeg,Int.reduceToNat,reduceCtorEq,Nat.reduceBEq,Nat.reduceBNe,Qk,Qe,Value.cells,am,mm,keep, f_, aint, hav, har, hal, lv, lv1, h1]; refine hK_ _ _ ?_; clear hK_ K_; repeat first | refine QL ?_ | refine QM ?_)))
    first | refine awp_ret ?_ | skip
    show ∃ v, aresults Try.prog Try.f21 _ _ = some v ∧ _
    rw [aresults_1 (r := .tmp 2) (by kernel_rfl)]
    simp -implicitDefEqProofs (disch := (try simp only [sl]); try omega) only [aresult, Option.some.injEq, exists_eq_left', sm,Qj,Qi,Qq,QC,Qz,bd,QF,look,aput,QB,Qf,QA,ty,↓reduceIte,Nat.reduceEqDiff,Nat.reduceAdd,Nat.reduceSub,Nat.reduceMul,Int.reduceLT,Int.reduceLE,Int.reduceNeg,Int.reduceToNat,reduceCtorEq,Nat.reduceBEq,Nat.reduceBNe,Qk,Qe,Value.cells,am,mm,keep, f_, aint, hav, har, hal, lv]
    refine ⟨?_, N_.ext⟩
    try simp [FarW, h1]
    try omega
  by_cases h2 : r > 5
  · -- (cursor back)
    iterate 1 ((repeat first | refine Qo ?_ | refine Qn ?_); (first | (refine QK (by kernel_rfl) ?_; intro K_ hK_; simp -implicitDefEqProofs (disch := (try simp only [sl]); try omega) only [sm,QJ,Qj,Qi,Qq,QC,Qz,bd,QF,look,aput,QI,abin,anil,Qc,QA,ty,↓reduceIte,Nat.reduceEqDiff,Nat.reduceAdd,Nat.reduceSub,Nat.reduceMul,Int.reduceLT,Int.reduceLE,Int.reduceNeg,Int.reduceToNat,reduceCtorEq,Nat.reduceBEq,Nat.reduceBNe,Qk,Qe,Value.cells,am,mm,keep, f_, aint, hav, har, hal, lv, lv1, h1, h2]; refine hK_ _ _ ?_; clear hK_ K_; repeat first | refine QL ?_ | refine QM ?_)))
    first | refine awp_ret ?_ | skip
    show ∃ v, aresults Try.prog Try.f21 _ _ = some v ∧ _
    rw [aresults_1 (r := .tmp 2) (by kernel_rfl)]
    simp -implicitDefEqProofs (disch := (try simp only [sl]); try omega) only [aresult, Option.some.injEq, exists_eq_left', sm,Qj,Qi,Qq,QC,Qz,bd,QF,look,aput,QB,Qf,QA,ty,↓reduceIte,Nat.reduceEqDiff,Nat.reduceAdd,Nat.reduceSub,Nat.reduceMul,Int.reduceLT,Int.reduceLE,Int.reduceNeg,Int.reduceToNat,reduceCtorEq,Nat.reduceBEq,Nat.reduceBNe,Qk,Qe,Value.cells,am,mm,keep, f_, aint, hav, har, hal, lv]
    refine ⟨?_, N_.ext⟩
    try simp [FarW, h1, h2]
    try omega
  · -- (cursor back)
    iterate 1 ((repeat first | refine Qo ?_ | refine Qn ?_); (first | (refine QK (by kernel_rfl) ?_; intro K_ hK_; simp -implicitDefEqProofs (disch := (try simp only [sl]); try omega) only [sm,QJ,Qj,Qi,Qq,QC,Qz,bd,QF,look,aput,QI,abin,anil,Qc,QA,ty,↓reduceIte,Nat.reduceEqDiff,Nat.reduceAdd,Nat.reduceSub,Nat.reduceMul,Int.reduceLT,Int.reduceLE,Int.reduceNeg,Int.reduceToNat,reduceCtorEq,Nat.reduceBEq,Nat.reduceBNe,Qk,Qe,Value.cells,am,mm,keep, f_, aint, hav, har, hal, lv, lv1, h1, h2]; refine hK_ _ _ ?_; clear hK_ K_; repeat first | refine QL ?_ | refine QM ?_)))
    first | refine awp_ret ?_ | skip
    show ∃ v, aresults Try.prog Try.f21 _ _ = some v ∧ _
    rw [aresults_1 (r := .tmp 2) (by kernel_rfl)]
    simp -implicitDefEqProofs (disch := (try simp only [sl]); try omega) only [aresult, Option.some.injEq, exists_eq_left', sm,Qj,Qi,Qq,QC,Qz,bd,QF,look,aput,QB,Qf,QA,ty,↓reduceIte,Nat.reduceEqDiff,Nat.reduceAdd,Nat.reduceSub,Nat.reduceMul,Int.reduceLT,Int.reduceLE,Int.reduceNeg,Int.reduceToNat,reduceCtorEq,Nat.reduceBEq,Nat.reduceBNe,Qk,Qe,Value.cells,am,mm,keep, f_, aint, hav, har, hal, lv]
    refine ⟨?_, N_.ext⟩
    try simp [FarW, h1, h2]
    try omega
theorem ours_calls (s : List UInt8) (r : Int) (k c : List UInt8) (H : AH) (h : WK.ok ⟨s, r, k, c⟩) : ACalls Try.prog 27 #[.agg (wcells s r k c).toArray] H fun w H' => w = .agg (wcells s r k c).toArray ∧ Ext H H' := by
  have hwl := wcells_length h
  have hwa := wcells_cellv
  have hwz := wcells_length WK.zero_ok
  have htk : List.take 81 (wcells s r k c) = wcells s r k c := List.take_of_length_le (by rw [hwl]; decide)
  have hov : ovr (wcells (zb 16) 0 (zb 32) (zb 32)) 0 (wcells s r k c) = wcells s r k c := ovr_all _ _ (by rw [hwl, hwz])
  have fo_ : True := trivial
  have N_ := Now.start H
  have f_ := N_.has
  simp only [Has] at f_
  refine acalls_of_body Try.func27 rfl Try.ntmps27 (by simp) ?_
  simp only [argsT, Nat.reduceAdd]
  iterate 1 ((repeat first | refine Qo ?_ | refine Qn ?_); (first | (refine QK (by kernel_rfl) ?_; intro K_ hK_; simp -implicitDefEqProofs (disch := (try simp only [sl]); try omega) only [sm,QJ,Qj,Qi,Qq,QC,bd,look,aput,ty,↓reduceIte,Nat.reduceEqDiff,Nat.reduceAdd,Nat.reduceSub,Nat.reduceMul,Int.reduceLT,Int.reduceLE,Int.reduceNeg,Int.reduceToNat,reduceCtorEq,Nat.reduceBEq,Nat.reduceBNe,Qk,Qe,Value.cells,am,mm,keep, f_, hwl, hwa, hwz, zW, hov, htk]; refine hK_ _ _ ?_; clear hK_ K_; repeat first | refine QL ?_ | refine QM ?_)))
  first | refine AWp.snap8 N_ ?_ | refine AWp.snap7 N_ ?_ | refine AWp.snap6 N_ ?_ | refine AWp.snap5 N_ ?_ | refine AWp.snap4 N_ ?_ | refine AWp.snap3 N_ ?_ | refine AWp.snap2 N_ ?_ | refine AWp.snap1 N_ ?_
  clear fo_; have fo_ := f_; clear f_ N_; intro H1 xH1 lH1 N_
  have f_ := N_.has
  simp only [Has] at f_
  iterate 1 ((repeat first | refine Qo ?_ | refine Qn ?_); (first | (refine QK (by kernel_rfl) ?_; intro K_ hK_; simp -implicitDefEqProofs (disch := (try simp only [sl]); try omega) only [sm,QJ,Qj,Qi,Qq,QC,Qz,bd,QF,look,aput,Qm,QA,ty,↓reduceIte,Nat.reduceEqDiff,Nat.reduceAdd,Nat.reduceSub,Nat.reduceMul,Int.reduceLT,Int.reduceLE,Int.reduceNeg,Int.reduceToNat,reduceCtorEq,Nat.reduceBEq,Nat.reduceBNe,Qk,Qe,Value.cells,am,mm,keep, f_, hwl, hwa, hwz, zW, hov, htk]; refine hK_ _ _ ?_; clear hK_ K_; repeat first | refine QL ?_ | refine QM ?_)))
  first | refine awp_ret ?_ | skip
  show ∃ v, aresults Try.prog Try.f27 _ _ = some v ∧ _
  rw [aresults_1 (r := .cell 2 50) (by kernel_rfl)]
  simp -implicitDefEqProofs (disch := (try simp only [sl]); try omega) only [aresult, Option.some.injEq, exists_eq_left', sm,Qj,Qi,Qq,QC,Qz,bd,QF,look,aput,QB,Qf,QA,ty,↓reduceIte,Nat.reduceEqDiff,Nat.reduceAdd,Nat.reduceSub,Nat.reduceMul,Int.reduceLT,Int.reduceLE,Int.reduceNeg,Int.reduceToNat,reduceCtorEq,Nat.reduceBEq,Nat.reduceBNe,Qk,Qe,Value.cells,am,mm,keep, f_, hwl, hwa, hwz, zW, hov, htk]
  exact N_.ext.set _ (by omega)
theorem theirs_calls (s : List UInt8) (r : Int) (k c : List UInt8) (H : AH) (h : WK.ok ⟨s, r, k, c⟩) : ACalls Try.prog 29 #[.agg (wcells s r k c).toArray] H fun w H' => w = .agg (wcells s r k c).toArray ∧ Ext H H' := by
  have hwl := wcells_length h
  have hwa := wcells_cellv
  have hwz := wcells_length WK.zero_ok
  have htk : List.take 81 (wcells s r k c) = wcells s r k c := List.take_of_length_le (by rw [hwl]; decide)
  have hov : ovr (wcells (zb 16) 0 (zb 32) (zb 32)) 0 (wcells s r k c) = wcells s r k c := ovr_all _ _ (by rw [hwl, hwz])
  have fo_ : True := trivial
  have N_ := Now.start H
  have f_ := N_.has
  simp only [Has] at f_
  refine acalls_of_body Try.func29 rfl Try.ntmps29 (by simp) ?_
  simp only [argsT, Nat.reduceAdd]
  iterate 1 ((repeat first | refine Qo ?_ | refine Qn ?_); (first | (refine QK (by kernel_rfl) ?_; intro K_ hK_; simp -implicitDefEqProofs (disch := (try simp only [sl]); try omega) only [sm,QJ,Qj,Qi,Qq,QC,bd,look,aput,ty,↓reduceIte,Nat.reduceEqDiff,Nat.reduceAdd,Nat.reduceSub,Nat.reduceMul,Int.reduceLT,Int.reduceLE,Int.reduceNeg,Int.reduceToNat,reduceCtorEq,Nat.reduceBEq,Nat.reduceBNe,Qk,Qe,Value.cells,am,mm,keep, f_, hwl, hwa, hwz, zW, hov, htk]; refine hK_ _ _ ?_; clear hK_ K_; repeat first | refine QL ?_ | refine QM ?_)))
  first | refine AWp.snap8 N_ ?_ | refine AWp.snap7 N_ ?_ | refine AWp.snap6 N_ ?_ | refine AWp.snap5 N_ ?_ | refine AWp.snap4 N_ ?_ | refine AWp.snap3 N_ ?_ | refine AWp.snap2 N_ ?_ | refine AWp.snap1 N_ ?_
  clear fo_; have fo_ := f_; clear f_ N_; intro H1 xH1 lH1 N_
  have f_ := N_.has
  simp only [Has] at f_
  iterate 1 ((repeat first | refine Qo ?_ | refine Qn ?_); (first | (refine QK (by kernel_rfl) ?_; intro K_ hK_; simp -implicitDefEqProofs (disch := (try simp only [sl]); try omega) only [sm,QJ,Qj,Qi,Qq,QC,Qz,bd,QF,look,aput,Qm,QA,ty,↓reduceIte,Nat.reduceEqDiff,Nat.reduceAdd,Nat.reduceSub,Nat.reduceMul,Int.reduceLT,Int.reduceLE,Int.reduceNeg,Int.reduceToNat,reduceCtorEq,Nat.reduceBEq,Nat.reduceBNe,Qk,Qe,Value.cells,am,mm,keep, f_, hwl, hwa, hwz, zW, hov, htk]; refine hK_ _ _ ?_; clear hK_ K_; repeat first | refine QL ?_ | refine QM ?_)))
  first | refine awp_ret ?_ | skip
  show ∃ v, aresults Try.prog Try.f29 _ _ = some v ∧ _
  rw [aresults_1 (r := .cell 2 47) (by kernel_rfl)]
  simp -implicitDefEqProofs (disch := (try simp only [sl]); try omega) only [aresult, Option.some.injEq, exists_eq_left', sm,Qj,Qi,Qq,QC,Qz,bd,QF,look,aput,QB,Qf,QA,ty,↓reduceIte,Nat.reduceEqDiff,Nat.reduceAdd,Nat.reduceSub,Nat.reduceMul,Int.reduceLT,Int.reduceLE,Int.reduceNeg,Int.reduceToNat,reduceCtorEq,Nat.reduceBEq,Nat.reduceBNe,Qk,Qe,Value.cells,am,mm,keep, f_, hwl, hwa, hwz, zW, hov, htk]
  exact N_.ext.set _ (by omega)
theorem lit1w {H : AH} {g : Nat} (b : UInt8) {c : Int} (hg : H[g]? = some (.own [.int .u8 c])) (hc : c = (b.toNat : Int)) : SL H (.slice (some ⟨g, 0, none⟩) 1 1) ([b].map U8) := by
  subst hc
  exact SL.own 1 rfl hg
set_option maxHeartbeats 4000000 in
theorem walive_calls (H : AH) : ACalls Try.prog 22 #[] H fun w H' => w = .bool true ∧ Ext H H' := by
  have hS : Value.int .u8 1 :: List.replicate 15 (Value.int .u8 0) = ((1 : UInt8) :: zb 15).map U8 := rfl
  have hM : Value.int .u8 9 :: List.replicate 31 (Value.int .u8 0) = ((9 : UInt8) :: zb 31).map U8 := rfl
  simp only [List.replicate] at hS hM
  have hs : ((1 : UInt8) :: zb 15).length = 16 := rfl
  have hm : ((9 : UInt8) :: zb 31).length = 32 := rfl
  have hz32 := zb_length 32
  have hwz := wcells_length WK.zero_ok
  have hwa := wcells_cellv
  have haez := aeq32r
  generalize (1 : UInt8) :: zb 15 = s at *
  generalize (9 : UInt8) :: zb 31 = m at *
  have hin : inR 2 := by decide
  have h0 : halE 0 = 1 := by decide
  have h2 : halE 2 = 0 := by decide
  have hR : wrapR 2 = 2 := by decide
  have fo_ : True := trivial
  have N_ := Now.start H
  have f_ := N_.has
  simp only [Has] at f_
  refine acalls_of_body Try.func22 rfl Try.ntmps22 (by simp) ?_
  simp only [argsT, Nat.reduceAdd]
  iterate 1 ((repeat first | refine Qo ?_ | refine Qn ?_); (first | (refine QK (by kernel_rfl) ?_; intro K_ hK_; simp -implicitDefEqProofs (disch := (try simp only [sl]); try omega) only [sm,QJ,Qj,Qi,Qq,QC,Qz,bd,QF,look,aput,Qm,QH,Qg,Qh,ty,↓reduceIte,Nat.reduceEqDiff,Nat.reduceAdd,Nat.reduceSub,Nat.reduceMul,Int.reduceLT,Int.reduceLE,Int.reduceNeg,Int.reduceToNat,reduceCtorEq,Nat.reduceBEq,Nat.reduceBNe,Qk,Qe,Value.cells,am,mm,keep, f_, aint, hS, hM, QO, zW, zD, hz32, hs, hm, hwz, hwa]; refine hK_ _ _ ?_; clear hK_ K_; repeat first | refine QL ?_ | refine QM ?_)))
  (repeat first | refine Qo ?_ | refine Qn ?_); refine QK (by kernel_rfl) ?_; intro K_ hK_; simp -implicitDefEqProofs (disch := (try simp only [sl]); try omega) only [sm,QJ,Qj,Qi,Qq,QC,Qz,bd,QF,look,aput,Qm,QH,Qg,Qh,ty,↓reduceIte,Nat.reduceEqDiff,Nat.reduceAdd,Nat.reduceSub,Nat.reduceMul,Int.reduceLT,Int.reduceLE,Int.reduceNeg,Int.reduceToNat,reduceCtorEq,Nat.reduceBEq,Nat.reduceBNe,Qk,Qe,Value.cells,am,mm,keep, f_, aint, hS, hM, QO, zW, zD, hz32, hs, hm, hwz, hwa]
  first | refine ACalls.snap8 N_ ?_ | refine ACalls.snap7 N_ ?_ | refine ACalls.snap6 N_ ?_ | refine ACalls.snap5 N_ ?_ | refine ACalls.snap4 N_ ?_ | refine ACalls.snap3 N_ ?_ | refine ACalls.snap2 N_ ?_ | refine ACalls.snap1 N_ ?_
  clear fo_; have fo_ := f_; clear f_ N_; intro H1 xH1 lH1 N_
  have f_ := N_.has
  simp only [Has] at f_
  have tp : SL H1 (.slice (some ⟨H.length, 0, none⟩) 1 1) (([112] : List UInt8).map U8) := lit1w 112 f_.1.2.1 rfl
  have hpl : ([112] : List UInt8).length ≤ 1099511627000 := by decide
  generalize hp : ([112] : List UInt8) = p at *
  refine ACalls.mono (wrap_calls _ p s 2 m H1 tp hpl hs hm (by decide) (by decide)) ?_
  rintro _ H2 ⟨rfl, e2⟩
  replace N_ := N_.grow e2
  clear fo_; have fo_ := f_; clear f_
  have f_ := N_.has
  simp only [Has] at f_
  have hok := wrap_ok p s 2 m hs hm
  have hwl := wcells_length hok
  have hwr := wcells_r hok
  have htk : List.take 81 (wcells (wrapS s 2) (wrapR 2) (wrapK p s 2 m) (wrapC p s 2 m)) = wcells (wrapS s 2) (wrapR 2) (wrapK p s 2 m) (wrapC p s 2 m) := List.take_of_length_le (by rw [hwl]; decide)
  have hovW : ovr (wcells (zb 16) 0 (zb 32) (zb 32)) 0 (wcells (wrapS s 2) (wrapR 2) (wrapK p s 2 m) (wrapC p s 2 m)) = wcells (wrapS s 2) (wrapR 2) (wrapK p s 2 m) (wrapC p s 2 m) := ovr_all _ _ (by rw [hwl, hwz])
  have hu := unw_wrap p s 2 m hin
  try simp -implicitDefEqProofs (disch := (try simp only [sl]); try omega) only [sm,QJ,Qj,Qi,Qq,QC,Qz,bd,QF,look,aput,Qm,QH,Qg,Qh,ty,↓reduceIte,Nat.reduceEqDiff,Nat.reduceAdd,Nat.reduceSub,Nat.reduceMul,Int.reduceLT,Int.reduceLE,Int.reduceNeg,Int.reduceToNat,reduceCtorEq,Nat.reduceBEq,Nat.reduceBNe,Qk,Qe,Value.cells,am,mm,keep, f_, aint, hS, hM, QO, zW, zD, hz32, hs, hm, hwz, hwa, hwl, hovW, h2]
  try (refine hK_ _ _ ?_; clear hK_ K_; repeat first | refine QL ?_ | refine QM ?_)
  first | refine AWp.snap8 N_ ?_ | refine AWp.snap7 N_ ?_ | refine AWp.snap6 N_ ?_ | refine AWp.snap5 N_ ?_ | refine AWp.snap4 N_ ?_ | refine AWp.snap3 N_ ?_ | refine AWp.snap2 N_ ?_ | refine AWp.snap1 N_ ?_
  clear fo_; have fo_ := f_; clear f_ N_; intro H3 xH3 lH3 N_
  have f_ := N_.has
  simp only [Has] at f_
  (repeat first | refine Qo ?_ | refine Qn ?_); refine QK (by kernel_rfl) ?_; intro K_ hK_; simp -implicitDefEqProofs (disch := (try simp only [sl]); try omega) only [sm,QJ,Qj,Qi,Qq,QC,Qz,bd,QF,look,aput,Qm,QH,Qg,QA,Qh,ty,↓reduceIte,Nat.reduceEqDiff,Nat.reduceAdd,Nat.reduceSub,Nat.reduceMul,Int.reduceLT,Int.reduceLE,Int.reduceNeg,Int.reduceToNat,reduceCtorEq,Nat.reduceBEq,Nat.reduceBNe,Qk,Qe,Value.cells,am,mm,keep, f_, aint, hS, hM, QO, zW, zD, hz32, hs, hm, hwz, hwa, htk, hwl]
  first | refine ACalls.snap8 N_ ?_ | refine ACalls.snap7 N_ ?_ | refine ACalls.snap6 N_ ?_ | refine ACalls.snap5 N_ ?_ | refine ACalls.snap4 N_ ?_ | refine ACalls.snap3 N_ ?_ | refine ACalls.snap2 N_ ?_ | refine ACalls.snap1 N_ ?_
  clear fo_; have fo_ := f_; clear f_ N_; intro H4 xH4 lH4 N_
  have f_ := N_.has
  simp only [Has] at f_
  have tp4 : SL H4 (.slice (some ⟨H3.length, 0, none⟩) 1 1) (p.map U8) := by rw [← hp]; exact lit1w 112 f_.1.2.1 rfl
  refine ACalls.mono (unwrap_calls _ p _ _ _ _ H4 tp4 hpl hok (by rw [hR]; decide) (by rw [hR]; decide)) ?_
  rintro _ H5 ⟨rfl, e5⟩
  replace N_ := N_.grow e5
  clear fo_; have fo_ := f_; clear f_
  have f_ := N_.has
  simp only [Has] at f_
  have hovm : ovr ((zb 32).map U8) 0 (m.map U8) = m.map U8 := ovr_all _ _ (by rw [List.length_map, List.length_map, hm, hz32])
  try simp -implicitDefEqProofs (disch := (try simp only [sl]); try omega) only [sm,QJ,Qj,Qi,Qq,QC,Qz,bd,QF,look,aput,Qm,QH,Qg,QA,Qh,ty,↓reduceIte,Nat.reduceEqDiff,Nat.reduceAdd,Nat.reduceSub,Nat.reduceMul,Int.reduceLT,Int.reduceLE,Int.reduceNeg,Int.reduceToNat,reduceCtorEq,Nat.reduceBEq,Nat.reduceBNe,Qk,Qe,Value.cells,am,mm,keep, f_, aint, hS, hM, QO, zW, zD, hz32, hs, hm, hwz, hwa, hu, hovm]
  try (refine hK_ _ _ ?_; clear hK_ K_; repeat first | refine QL ?_ | refine QM ?_)
  first | refine AWp.snap8 N_ ?_ | refine AWp.snap7 N_ ?_ | refine AWp.snap6 N_ ?_ | refine AWp.snap5 N_ ?_ | refine AWp.snap4 N_ ?_ | refine AWp.snap3 N_ ?_ | refine AWp.snap2 N_ ?_ | refine AWp.snap1 N_ ?_
  clear fo_; have fo_ := f_; clear f_ N_; intro H6 xH6 lH6 N_
  have f_ := N_.has
  simp only [Has] at f_
  have zS : [Value.int .u8 0, Value.int .u8 0, Value.int .u8 0, Value.int .u8 0, Value.int .u8 0, Value.int .u8 0, Value.int .u8 0, Value.int .u8 0, Value.int .u8 0, Value.int .u8 0, Value.int .u8 0, Value.int .u8 0, Value.int .u8 0, Value.int .u8 0, Value.int .u8 0, Value.int .u8 0] = (zb 16).map U8 := rfl
  (repeat first | refine Qo ?_ | refine Qn ?_); refine QK (by kernel_rfl) ?_; intro K_ hK_; simp -implicitDefEqProofs (disch := (try simp only [sl]); try omega) only [sm,QJ,Qj,Qi,Qq,QC,bd,look,aput,Qm,Qh,ty,↓reduceIte,Nat.reduceEqDiff,Nat.reduceAdd,Nat.reduceSub,Nat.reduceMul,Int.reduceLT,Int.reduceLE,Int.reduceNeg,Int.reduceToNat,reduceCtorEq,Nat.reduceBEq,Nat.reduceBNe,Qk,Qe,Value.cells,am,mm,keep, f_, aint, hS, hM, QO, zW, zD, hz32, hs, hm, hwz, hwa, zS]
  refine ACalls.mono (halves_calls _ [] (zb 16) 0 H6 (.inl ⟨rfl, rfl⟩) (by decide) (zb_length 16) (by decide) (by decide)) ?_
  rintro _ H7 ⟨rfl, e7⟩
  replace N_ := N_.grow e7
  clear fo_; have fo_ := f_; clear f_
  have f_ := N_.has
  simp only [Has] at f_
  have hl1 := halA_length [] (zb 16) 0
  have hl2 := halB_length [] (zb 16) 0
  try simp -implicitDefEqProofs (disch := (try simp only [sl]); try omega) only [sm,QJ,Qj,Qi,Qq,QC,bd,look,aput,Qm,Qh,ty,↓reduceIte,Nat.reduceEqDiff,Nat.reduceAdd,Nat.reduceSub,Nat.reduceMul,Int.reduceLT,Int.reduceLE,Int.reduceNeg,Int.reduceToNat,reduceCtorEq,Nat.reduceBEq,Nat.reduceBNe,Qk,Qe,Value.cells,am,mm,keep, f_, aint, hS, hM, QO, zW, zD, hz32, hs, hm, hwz, hwa, hl1, hl2, h0]
  try (refine hK_ _ _ ?_; clear hK_ K_; repeat first | refine QL ?_ | refine QM ?_)
  first | refine AWp.snap8 N_ ?_ | refine AWp.snap7 N_ ?_ | refine AWp.snap6 N_ ?_ | refine AWp.snap5 N_ ?_ | refine AWp.snap4 N_ ?_ | refine AWp.snap3 N_ ?_ | refine AWp.snap2 N_ ?_ | refine AWp.snap1 N_ ?_
  clear fo_; have fo_ := f_; clear f_ N_; intro H8 xH8 lH8 N_
  have f_ := N_.has
  simp only [Has] at f_
  rw [hR] at hwr
  iterate 1 ((repeat first | refine Qo ?_ | refine Qn ?_); (first | (refine QK (by kernel_rfl) ?_; intro K_ hK_; simp -implicitDefEqProofs (disch := (try simp only [sl]); try omega) only [sm,QJ,Qj,Qi,Qq,QC,Qz,bd,QF,look,aput,QI,abin,anil,Qc,QA,ty,↓reduceIte,Nat.reduceEqDiff,Nat.reduceAdd,Nat.reduceSub,Nat.reduceMul,Int.reduceLT,Int.reduceLE,Int.reduceNeg,Int.reduceToNat,reduceCtorEq,Nat.reduceBEq,Nat.reduceBNe,Qk,Qe,Value.cells,am,mm,keep, f_, aint, hS, hM, QO, zW, zD, hz32, hs, hm, hwz, hwa, haez, hwr, hR, htk, hwl, beq_self_eq_true]; refine hK_ _ _ ?_; clear hK_ K_; repeat first | refine QL ?_ | refine QM ?_)))
  first | refine awp_ret ?_ | skip
  show ∃ v, aresults Try.prog Try.f22 _ _ = some v ∧ _
  rw [aresults_1 (r := .tmp 0) (by kernel_rfl)]
  simp -implicitDefEqProofs (disch := (try simp only [sl]); try omega) only [aresult, Option.some.injEq, exists_eq_left', sm,Qj,Qi,Qq,QC,Qz,bd,QF,look,aput,QB,Qf,QA,ty,↓reduceIte,Nat.reduceEqDiff,Nat.reduceAdd,Nat.reduceSub,Nat.reduceMul,Int.reduceLT,Int.reduceLE,Int.reduceNeg,Int.reduceToNat,reduceCtorEq,Nat.reduceBEq,Nat.reduceBNe,Qk,Qe,Value.cells,am,mm,keep, f_, aint, hS, hM, QO, zW, zD, hz32, hs, hm, hwz, hwa]
  exact N_.ext
end Go.Proofs.Ytelpdppdhimfoaa
