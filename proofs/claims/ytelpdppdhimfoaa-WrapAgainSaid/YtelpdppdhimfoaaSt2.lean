/- stretch: Block, Key. -/
import Derived.Test.YtelpdppdhimfoaaSt1
namespace Go.Proofs.Ytelpdppdhimfoaa
open Go Go.RowKit
set_option linter.unusedSimpArgs false
set_option linter.unusedVariables false
set_option maxRecDepth 4000
def be4 (i : UInt32) : List UInt8 := [(i >>> 24).toUInt8, (i >>> 16).toUInt8, (i >>> 8).toUInt8, i.toUInt8]
def blockS (k s : List UInt8) (r : Int) (i : UInt32) : List UInt8 := if r < 1 ∨ 10000 < r then zb 32 else accN k (macB k (s ++ be4 i)) (zb 32) r.toNat
theorem blockS_length (k s : List UInt8) (r : Int) (i : UInt32) : (blockS k s r i).length = 32 := by
  unfold blockS
  split
  · exact zb_length _
  · exact accN_length _ _ _ (zb_length _) _
set_option maxHeartbeats 4000000 in
theorem stblock_calls (pv sv : Value) (k s : List UInt8) (r : Int) (i : UInt32) (H : AH) (hk : SL H pv (k.map U8)) (hs : SL H sv (s.map U8)) (hkl : k.length ≤ 1099511627000) (hsl : s.length ≤ 1099511610000) (hr0 : -9223372036854775808 ≤ r) (hr1 : r ≤ 9223372036854775807) :
    ACalls Try.prog 16 #[pv, sv, .int .i64 r, U32 i] H fun v H' => v = .agg ((blockS k s r i).map U8).toArray ∧ Ext H H' := by
  have hE0 : Ext H (H ++ [ABlk.own ((zb 32).map U8)] ++ [ABlk.own ((zb 32).map U8)]) := (by repeat first | assumption | exact Ext.refl _ | exact Ext.pre (by assumption) | exact Ext.pre (Ext.pre (by assumption)) | exact Ext.pre (Ext.pre (Ext.pre (by assumption))) | exact Ext.pre (Ext.pre (Ext.pre (Ext.pre (by assumption)))) | apply Ext.pushed | refine Ext.both ?_ _ _ | refine Ext.set ?_ _ (by omega))
  have hM0 : (H ++ [ABlk.own ((zb 32).map U8)] ++ [ABlk.own ((zb 32).map U8)])[H.length]? = some (.own ((zb 32).map U8)) := (by simp -implicitDefEqProofs (disch := (try simp only [sl]); try omega) only [sm,Qj,Qi,Qq,QC,bd,look,aput,ty,↓reduceIte,Nat.reduceEqDiff,Nat.reduceAdd,Nat.reduceSub,Nat.reduceMul,Int.reduceLT,Int.reduceLE,Int.reduceNeg,Int.reduceToNat,reduceCtorEq,Nat.reduceBEq,Nat.reduceBNe,Qk,Qe,Value.cells,am,mm,keep])
  have hM1 : (H ++ [ABlk.own ((zb 32).map U8)] ++ [ABlk.own ((zb 32).map U8)])[H.length + 1]? = some (.own ((zb 32).map U8)) := (by simp -implicitDefEqProofs (disch := (try simp only [sl]); try omega) only [sm,Qj,Qi,Qq,QC,bd,look,aput,ty,↓reduceIte,Nat.reduceEqDiff,Nat.reduceAdd,Nat.reduceSub,Nat.reduceMul,Int.reduceLT,Int.reduceLE,Int.reduceNeg,Int.reduceToNat,reduceCtorEq,Nat.reduceBEq,Nat.reduceBNe,Qk,Qe,Value.cells,am,mm,keep])
  have hz : (zb 32).length = 32 := zb_length 32
  obtain ⟨ps, ns, es, rfl⟩ := hs.isSlice
  refine acalls_of_body Try.func16 rfl Try.ntmps16 (by simp) ?_
  simp only [argsT, Nat.reduceAdd]
  iterate 2 ((repeat first | refine Qo ?_ | refine Qn ?_); (first | refine Qp (by kernel_rfl) ?_); simp -implicitDefEqProofs (disch := (try simp only [sl]); try omega) only [sm,QJ,Qj,Qi,Qq,QC,bd,look,aput,QB,Qf,ty,↓reduceIte,Nat.reduceEqDiff,Nat.reduceAdd,Nat.reduceSub,Nat.reduceMul,Int.reduceLT,Int.reduceLE,Int.reduceNeg,Int.reduceToNat,reduceCtorEq,Nat.reduceBEq,Nat.reduceBNe,Qk,Qe,Value.cells,am,mm,keep, QO, aint])
  generalize H ++ [ABlk.own ((zb 32).map U8)] ++ [ABlk.own ((zb 32).map U8)] = H0 at *
  have cM1 := AH.cells_own hM1
  have gM0 := got_lt hM0
  by_cases h1 : r < 1
  · have hb : blockS k s r i = zb 32 := by rw [blockS, if_pos (.inl h1)]
    rw [hb]
    iterate 1 ((repeat first | refine Qo ?_ | refine Qn ?_); (first | refine Qp (by kernel_rfl) ?_); simp -implicitDefEqProofs (disch := (try simp only [sl]); try omega) only [sm,QJ,Qj,Qi,Qq,QC,bd,look,aput,QB,Qf,QI,abin,anil,ty,↓reduceIte,Nat.reduceEqDiff,Nat.reduceAdd,Nat.reduceSub,Nat.reduceMul,Int.reduceLT,Int.reduceLE,Int.reduceNeg,Int.reduceToNat,reduceCtorEq,Nat.reduceBEq,Nat.reduceBNe,Qk,Qe,Value.cells,am,mm,keep, QO, aint, h1])
    repeat first | refine Qo ?_ | refine Qn ?_
    refine awp_if true rfl (by simp only [aeval_tmp, look, ↓reduceIte, Nat.reduceEqDiff]; try rfl) (fun _ => ?_) (fun h => absurd h (by decide))
    iterate 1 ((repeat first | refine Qo ?_ | refine Qn ?_); (first | refine Qp (by kernel_rfl) ?_); simp -implicitDefEqProofs (disch := (try simp only [sl]); try omega) only [sm,QJ,Qj,Qi,Qq,QC,Qz,bd,QF,look,aput,Qm,QB,Qf,QA,ty,↓reduceIte,Nat.reduceEqDiff,Nat.reduceAdd,Nat.reduceSub,Nat.reduceMul,Int.reduceLT,Int.reduceLE,Int.reduceNeg,Int.reduceToNat,reduceCtorEq,Nat.reduceBEq,Nat.reduceBNe,Qk,Qe,Value.cells,am,mm,keep, QO, aint, cM1, hM0, hz, gM0])
    first | refine awp_ret ?_ | skip
    show ∃ v, aresults Try.prog Try.f16 _ _ = some v ∧ _
    rw [aresults_1 (r := .cell 8 35) (by kernel_rfl)]
    simp -implicitDefEqProofs (disch := (try simp only [sl]); try omega) only [aresult, Option.some.injEq, exists_eq_left', sm,Qj,Qi,Qq,QC,Qz,bd,QF,look,aput,QB,Qf,QA,ty,↓reduceIte,Nat.reduceEqDiff,Nat.reduceAdd,Nat.reduceSub,Nat.reduceMul,Int.reduceLT,Int.reduceLE,Int.reduceNeg,Int.reduceToNat,reduceCtorEq,Nat.reduceBEq,Nat.reduceBNe,Qk,Qe,Value.cells,am,mm,keep, QO, aint]
    exact Ext.set hE0 _ (Nat.le_refl _)
  by_cases h2 : 10000 < r
  · have hb : blockS k s r i = zb 32 := by rw [blockS, if_pos (.inr h2)]
    rw [hb]
    have h2' : r > 10000 := h2
    iterate 1 ((repeat first | refine Qo ?_ | refine Qn ?_); (first | refine Qp (by kernel_rfl) ?_); simp -implicitDefEqProofs (disch := (try simp only [sl]); try omega) only [sm,QJ,Qj,Qi,Qq,QC,bd,look,aput,QB,Qf,QI,abin,anil,ty,↓reduceIte,Nat.reduceEqDiff,Nat.reduceAdd,Nat.reduceSub,Nat.reduceMul,Int.reduceLT,Int.reduceLE,Int.reduceNeg,Int.reduceToNat,reduceCtorEq,Nat.reduceBEq,Nat.reduceBNe,Qk,Qe,Value.cells,am,mm,keep, QO, aint, h1, h2, h2'])
    repeat first | refine Qo ?_ | refine Qn ?_
    refine awp_if true rfl (by simp only [aeval_tmp, look, ↓reduceIte, Nat.reduceEqDiff]; try rfl) (fun _ => ?_) (fun h => absurd h (by decide))
    iterate 1 ((repeat first | refine Qo ?_ | refine Qn ?_); (first | refine Qp (by kernel_rfl) ?_); simp -implicitDefEqProofs (disch := (try simp only [sl]); try omega) only [sm,QJ,Qj,Qi,Qq,QC,Qz,bd,QF,look,aput,Qm,QB,Qf,QA,ty,↓reduceIte,Nat.reduceEqDiff,Nat.reduceAdd,Nat.reduceSub,Nat.reduceMul,Int.reduceLT,Int.reduceLE,Int.reduceNeg,Int.reduceToNat,reduceCtorEq,Nat.reduceBEq,Nat.reduceBNe,Qk,Qe,Value.cells,am,mm,keep, QO, aint, cM1, hM0, hz, gM0])
    first | refine awp_ret ?_ | skip
    show ∃ v, aresults Try.prog Try.f16 _ _ = some v ∧ _
    rw [aresults_1 (r := .cell 8 35) (by kernel_rfl)]
    simp -implicitDefEqProofs (disch := (try simp only [sl]); try omega) only [aresult, Option.some.injEq, exists_eq_left', sm,Qj,Qi,Qq,QC,Qz,bd,QF,look,aput,QB,Qf,QA,ty,↓reduceIte,Nat.reduceEqDiff,Nat.reduceAdd,Nat.reduceSub,Nat.reduceMul,Int.reduceLT,Int.reduceLE,Int.reduceNeg,Int.reduceToNat,reduceCtorEq,Nat.reduceBEq,Nat.reduceBNe,Qk,Qe,Value.cells,am,mm,keep, QO, aint]
    exact Ext.set hE0 _ (Nat.le_refl _)
  have h2' : ¬ r > 10000 := h2
  iterate 1 ((repeat first | refine Qo ?_ | refine Qn ?_); (first | refine Qp (by kernel_rfl) ?_); simp -implicitDefEqProofs (disch := (try simp only [sl]); try omega) only [sm,QJ,Qj,Qi,Qq,QC,bd,look,aput,QB,Qf,QI,abin,anil,ty,↓reduceIte,Nat.reduceEqDiff,Nat.reduceAdd,Nat.reduceSub,Nat.reduceMul,Int.reduceLT,Int.reduceLE,Int.reduceNeg,Int.reduceToNat,reduceCtorEq,Nat.reduceBEq,Nat.reduceBNe,Qk,Qe,Value.cells,am,mm,keep, QO, aint, h1, h2, h2'])
  repeat first | refine Qo ?_ | refine Qn ?_
  refine awp_if false rfl (by simp only [aeval_tmp, look, ↓reduceIte, Nat.reduceEqDiff]; try rfl) (fun h => absurd h (by decide)) (fun _ => ?_)
  obtain ⟨n, rfl⟩ := Int.eq_ofNat_of_zero_le (show 0 ≤ r by omega)
  have hb : blockS k s (n : Int) i = accN k (macB k (s ++ be4 i)) (zb 32) n := by rw [blockS, if_neg (by omega), Int.toNat_natCast]
  rw [hb]
  iterate 3 ((repeat first | refine Qo ?_ | refine Qn ?_); (first | refine awp_skip ?_ | refine Qp (by kernel_rfl) ?_); simp -implicitDefEqProofs (disch := (try simp only [sl]); try omega) only [sm,QJ,Qj,Qi,Qq,QC,Qz,bd,QF,look,aput,Qm,QH,QB,Qf,Qg,QI,abin,anil,ty,↓reduceIte,Nat.reduceEqDiff,Nat.reduceAdd,Nat.reduceSub,Nat.reduceMul,Int.reduceLT,Int.reduceLE,Int.reduceNeg,Int.reduceToNat,reduceCtorEq,Nat.reduceBEq,Nat.reduceBNe,Qk,Qe,Value.cells,am,mm,keep, QO, aint])
  have hbe : [Value.int .u8 (((i >>> UInt32.ofNat 24).toUInt8.toNat : Nat) : Int), Value.int .u8 (((i >>> UInt32.ofNat 16).toUInt8.toNat : Nat) : Int), Value.int .u8 (((i >>> UInt32.ofNat 8).toUInt8.toNat : Nat) : Int), Value.int .u8 ((i.toUInt8.toNat : Nat) : Int)] = (be4 i).map U8 := rfl
  rw [hbe]
  have t1 : SL (H0 ++ [.own ((be4 i).map U8)]) (.slice (some ⟨H0.length, 0, none⟩) 4 1) ((be4 i).map U8) := SL.own 4 rfl (gpush _ _)
  have l1 : (H0 ++ [ABlk.own ((be4 i).map U8)]).length = H0.length + 1 := by simp
  have x1 : Ext H0 (H0 ++ [ABlk.own ((be4 i).map U8)]) := Ext.push _ _
  have hbl : (be4 i).length = 4 := rfl
  generalize be4 i = ib at *
  generalize H0 ++ [ABlk.own (ib.map U8)] = H1 at *
  rw [← l1]
  refine ACalls.mono (macsum_calls pv _ k _ _ ((hk.mono (hE0.trans x1)).mono (Ext.push _ _)) hkl (two_parts (hs.mono (hE0.trans x1)) t1) (by show 2 ≤ _; decide) (by rw [allB_two, List.length_append]; omega)) ?_
  rintro _ H2 ⟨rfl, e2⟩
  rw [allB_two]
  have x2 := x1.trans ((Ext.push H1 [ABlk.own [.slice ps ns es, .slice (some ⟨H0.length, 0, none⟩) 4 1]]).trans e2)
  have hml := macB_length k (s ++ ib)
  try simp -implicitDefEqProofs (disch := (try simp only [sl]); try omega) only [sm,QJ,Qj,Qi,Qq,QC,bd,look,aput,Qm,QB,Qf,ty,↓reduceIte,Nat.reduceEqDiff,Nat.reduceAdd,Nat.reduceSub,Nat.reduceMul,Int.reduceLT,Int.reduceLE,Int.reduceNeg,Int.reduceToNat,reduceCtorEq,Nat.reduceBEq,Nat.reduceBNe,Qk,Qe,Value.cells,am,mm,keep, QO, aint]
  have q1 := x2 _ _ hM1
  have q0 := x2 _ _ hM0
  refine ACalls.mono (chain_calls pv k (macB k (s ++ ib)) (zb 32) n (H.length + 1) H H2 hk hkl hml (hE0.trans x2) (by omega) q1 hz (by omega)) ?_
  rintro _ H3 ⟨q3, b3⟩
  have p3 := b3 _ _ (by omega) q0
  have x3 := b3.ext (hE0.trans x2) (by omega)
  have hal := accN_length k (macB k (s ++ ib)) (zb 32) hz n
  generalize accN k (macB k (s ++ ib)) (zb 32) n = ac at *
  have c3 := AH.cells_own q3
  have g3 := got_lt p3
  try simp -implicitDefEqProofs (disch := (try simp only [sl]); try omega) only [sm,QJ,Qj,Qi,Qq,QC,bd,look,aput,Qm,QB,Qf,ty,↓reduceIte,Nat.reduceEqDiff,Nat.reduceAdd,Nat.reduceSub,Nat.reduceMul,Int.reduceLT,Int.reduceLE,Int.reduceNeg,Int.reduceToNat,reduceCtorEq,Nat.reduceBEq,Nat.reduceBNe,Qk,Qe,Value.cells,am,mm,keep, QO, aint]
  iterate 1 ((repeat first | refine Qo ?_ | refine Qn ?_); (first | refine Qp (by kernel_rfl) ?_); simp -implicitDefEqProofs (disch := (try simp only [sl]); try omega) only [sm,QJ,Qj,Qi,Qq,QC,Qz,bd,QF,look,aput,Qm,QB,Qf,QA,ty,↓reduceIte,Nat.reduceEqDiff,Nat.reduceAdd,Nat.reduceSub,Nat.reduceMul,Int.reduceLT,Int.reduceLE,Int.reduceNeg,Int.reduceToNat,reduceCtorEq,Nat.reduceBEq,Nat.reduceBNe,Qk,Qe,Value.cells,am,mm,keep, QO, aint, c3, p3, hal, hz, g3])
  first | refine awp_ret ?_ | skip
  show ∃ v, aresults Try.prog Try.f16 _ _ = some v ∧ _
  rw [aresults_1 (r := .cell 8 35) (by kernel_rfl)]
  simp -implicitDefEqProofs (disch := (try simp only [sl]); try omega) only [aresult, Option.some.injEq, exists_eq_left', sm,Qj,Qi,Qq,QC,Qz,bd,QF,look,aput,QB,Qf,QA,ty,↓reduceIte,Nat.reduceEqDiff,Nat.reduceAdd,Nat.reduceSub,Nat.reduceMul,Int.reduceLT,Int.reduceLE,Int.reduceNeg,Int.reduceToNat,reduceCtorEq,Nat.reduceBEq,Nat.reduceBNe,Qk,Qe,Value.cells,am,mm,keep, QO, aint]
  exact Ext.set x3 _ (Nat.le_refl _)
/-- The first blocks in a row. -/
def outN (k s : List UInt8) (r : Int) (n : Nat) : List UInt8 := ((List.range n).map fun j => blockS k s r (UInt32.ofNat (j + 1))).flatten
theorem outN_succ (k s : List UInt8) (r : Int) (n : Nat) : outN k s r (n + 1) = outN k s r n ++ blockS k s r (UInt32.ofNat (n + 1)) := by
  unfold outN
  rw [List.range_succ, List.map_append, List.flatten_append]; simp
theorem outN_length (k s : List UInt8) (r : Int) : ∀ n, (outN k s r n).length = 32 * n
  | 0 => rfl
  | n + 1 => by rw [outN_succ, List.length_append, outN_length k s r n, blockS_length]; omega
theorem outN_take (k s : List UInt8) (r : Int) (z : Nat) : ∀ d n, z ≤ 32 * n → (outN k s r (n + d)).take z = (outN k s r n).take z
  | 0, n, _ => rfl
  | d + 1, n, h => by
    rw [← Nat.add_assoc, outN_succ, List.take_append_of_le_length (by rw [outN_length]; omega), outN_take k s r z d n h]
/-- The key. -/
def keyN (k s : List UInt8) (r : Int) (z : Nat) : List UInt8 := (outN k s r (z / 32 + 1)).take z
theorem keyN_eq (k s : List UInt8) (r : Int) (z n : Nat) (h : z ≤ 32 * n) (h2 : 32 * n < z + 32) : (outN k s r n).take z = keyN k s r z := by
  obtain ⟨d, hd⟩ : ∃ d, z / 32 + 1 = n + d := ⟨z / 32 + 1 - n, by omega⟩
  rw [keyN, hd, outN_take k s r z d n h]
theorem keyN_length (k s : List UInt8) (r : Int) (z : Nat) : (keyN k s r z).length = z := by
  rw [keyN, List.length_take, outN_length]; omega
/-- Asked for what there is none of. -/
def Off (r z : Int) : Prop := r < 1 ∨ 10000 < r ∨ z < 0 ∨ 1024 < z
instance (r z : Int) : Decidable (Off r z) := by unfold Off; infer_instance
set_option maxHeartbeats 4000000 in
theorem stkey_calls' (pv sv : Value) (k s : List UInt8) (r z : Int) (H : AH) (hk : SL H pv (k.map U8)) (hs : SL H sv (s.map U8)) (hkl : k.length ≤ 1099511627000) (hsl : s.length ≤ 1099511610000) (hr0 : -9223372036854775808 ≤ r) (hr1 : r ≤ 9223372036854775807) (hz0 : -9223372036854775808 ≤ z) (hz1 : z ≤ 9223372036854775807) :
    ACalls Try.prog 13 #[pv, sv, .int .i64 r, .int .i64 z] H fun v H' => Ext H H' ∧ ((Off r z ∧ v = .tuple #[.slice none 0 0, .int .i64 1]) ∨ ¬ Off r z ∧ ∃ u, v = .tuple #[u, .int .i64 0] ∧ SL H' u ((keyN k s r z.toNat).map U8) ∧ ∀ g o n e, u = .slice (some ⟨g, o, none⟩) n e → H.length ≤ g) := by
  refine acalls_of_body Try.func13 rfl Try.ntmps13 (by simp) ?_
  simp only [argsT, Nat.reduceAdd]
  iterate 1 ((repeat first | refine Qo ?_ | refine Qn ?_); (first | refine Qp (by kernel_rfl) ?_); simp -implicitDefEqProofs (disch := (try simp only [sl]); try omega) only [sm,QJ,Qj,Qi,Qq,QC,bd,look,aput,QB,Qf,ty,↓reduceIte,Nat.reduceEqDiff,Nat.reduceAdd,Nat.reduceSub,Nat.reduceMul,Int.reduceLT,Int.reduceLE,Int.reduceNeg,Int.reduceToNat,reduceCtorEq,Nat.reduceBEq,Nat.reduceBNe,Qk,Qe,Value.cells,am,mm,keep, aint])
  by_cases h1 : r < 1
  · -- R1
    iterate 1 ((repeat first | refine Qo ?_ | refine Qn ?_); (first | refine Qp (by kernel_rfl) ?_); simp -implicitDefEqProofs (disch := (try simp only [sl]); try omega) only [sm,QJ,Qj,Qi,Qq,QC,bd,look,aput,QB,Qf,QI,abin,anil,ty,↓reduceIte,Nat.reduceEqDiff,Nat.reduceAdd,Nat.reduceSub,Nat.reduceMul,Int.reduceLT,Int.reduceLE,Int.reduceNeg,Int.reduceToNat,reduceCtorEq,Nat.reduceBEq,Nat.reduceBNe,Qk,Qe,Value.cells,am,mm,keep, aint, h1])
    repeat first | refine Qo ?_ | refine Qn ?_
    refine awp_if true rfl (by simp only [aeval_tmp, look, ↓reduceIte, Nat.reduceEqDiff]; try rfl) (fun _ => ?_) (fun h => absurd h (by decide))
    iterate 1 ((repeat first | refine Qo ?_ | refine Qn ?_); (first | refine Qp (by kernel_rfl) ?_); simp -implicitDefEqProofs (disch := (try simp only [sl]); try omega) only [sm,QJ,Qj,Qi,Qq,QC,bd,look,aput,QB,Qf,ty,↓reduceIte,Nat.reduceEqDiff,Nat.reduceAdd,Nat.reduceSub,Nat.reduceMul,Int.reduceLT,Int.reduceLE,Int.reduceNeg,Int.reduceToNat,reduceCtorEq,Nat.reduceBEq,Nat.reduceBNe,Qk,Qe,Value.cells,am,mm,keep, aint])
    first | refine awp_ret ?_ | skip
    show ∃ v, aresults Try.prog Try.f13 _ _ = some v ∧ _
    rw [aresults_2 (r := .tmp 8) (s := .tmp 9) (by kernel_rfl)]
    simp -implicitDefEqProofs (disch := (try simp only [sl]); try omega) only [aresult, Option.some.injEq, exists_eq_left', sm,Qj,Qi,Qq,QC,Qz,bd,QF,look,aput,QB,Qf,QA,ty,↓reduceIte,Nat.reduceEqDiff,Nat.reduceAdd,Nat.reduceSub,Nat.reduceMul,Int.reduceLT,Int.reduceLE,Int.reduceNeg,Int.reduceToNat,reduceCtorEq,Nat.reduceBEq,Nat.reduceBNe,Qk,Qe,Value.cells,am,mm,keep, aint]
    exact ⟨Ext.refl _, .inl (.inl h1)⟩
  by_cases h2 : r > 10000
  · -- (cursor back)
    iterate 1 ((repeat first | refine Qo ?_ | refine Qn ?_); (first | refine Qp (by kernel_rfl) ?_); simp -implicitDefEqProofs (disch := (try simp only [sl]); try omega) only [sm,QJ,Qj,Qi,Qq,QC,bd,look,aput,QB,Qf,QI,abin,anil,ty,↓reduceIte,Nat.reduceEqDiff,Nat.reduceAdd,Nat.reduceSub,Nat.reduceMul,Int.reduceLT,Int.reduceLE,Int.reduceNeg,Int.reduceToNat,reduceCtorEq,Nat.reduceBEq,Nat.reduceBNe,Qk,Qe,Value.cells,am,mm,keep, aint, h1, h2])
    repeat first | refine Qo ?_ | refine Qn ?_
    refine awp_if true rfl (by simp only [aeval_tmp, look, ↓reduceIte, Nat.reduceEqDiff]; try rfl) (fun _ => ?_) (fun h => absurd h (by decide))
    iterate 1 ((repeat first | refine Qo ?_ | refine Qn ?_); (first | refine Qp (by kernel_rfl) ?_); simp -implicitDefEqProofs (disch := (try simp only [sl]); try omega) only [sm,QJ,Qj,Qi,Qq,QC,bd,look,aput,QB,Qf,ty,↓reduceIte,Nat.reduceEqDiff,Nat.reduceAdd,Nat.reduceSub,Nat.reduceMul,Int.reduceLT,Int.reduceLE,Int.reduceNeg,Int.reduceToNat,reduceCtorEq,Nat.reduceBEq,Nat.reduceBNe,Qk,Qe,Value.cells,am,mm,keep, aint])
    first | refine awp_ret ?_ | skip
    show ∃ v, aresults Try.prog Try.f13 _ _ = some v ∧ _
    rw [aresults_2 (r := .tmp 8) (s := .tmp 9) (by kernel_rfl)]
    simp -implicitDefEqProofs (disch := (try simp only [sl]); try omega) only [aresult, Option.some.injEq, exists_eq_left', sm,Qj,Qi,Qq,QC,Qz,bd,QF,look,aput,QB,Qf,QA,ty,↓reduceIte,Nat.reduceEqDiff,Nat.reduceAdd,Nat.reduceSub,Nat.reduceMul,Int.reduceLT,Int.reduceLE,Int.reduceNeg,Int.reduceToNat,reduceCtorEq,Nat.reduceBEq,Nat.reduceBNe,Qk,Qe,Value.cells,am,mm,keep, aint]
    exact ⟨Ext.refl _, .inl (.inr (.inl h2))⟩
  by_cases h3 : z < 0
  · -- (cursor back)
    iterate 1 ((repeat first | refine Qo ?_ | refine Qn ?_); (first | refine Qp (by kernel_rfl) ?_); simp -implicitDefEqProofs (disch := (try simp only [sl]); try omega) only [sm,QJ,Qj,Qi,Qq,QC,bd,look,aput,QB,Qf,QI,abin,anil,ty,↓reduceIte,Nat.reduceEqDiff,Nat.reduceAdd,Nat.reduceSub,Nat.reduceMul,Int.reduceLT,Int.reduceLE,Int.reduceNeg,Int.reduceToNat,reduceCtorEq,Nat.reduceBEq,Nat.reduceBNe,Qk,Qe,Value.cells,am,mm,keep, aint, h1, h2, h3])
    repeat first | refine Qo ?_ | refine Qn ?_
    refine awp_if true rfl (by simp only [aeval_tmp, look, ↓reduceIte, Nat.reduceEqDiff]; try rfl) (fun _ => ?_) (fun h => absurd h (by decide))
    iterate 1 ((repeat first | refine Qo ?_ | refine Qn ?_); (first | refine Qp (by kernel_rfl) ?_); simp -implicitDefEqProofs (disch := (try simp only [sl]); try omega) only [sm,QJ,Qj,Qi,Qq,QC,bd,look,aput,QB,Qf,ty,↓reduceIte,Nat.reduceEqDiff,Nat.reduceAdd,Nat.reduceSub,Nat.reduceMul,Int.reduceLT,Int.reduceLE,Int.reduceNeg,Int.reduceToNat,reduceCtorEq,Nat.reduceBEq,Nat.reduceBNe,Qk,Qe,Value.cells,am,mm,keep, aint])
    first | refine awp_ret ?_ | skip
    show ∃ v, aresults Try.prog Try.f13 _ _ = some v ∧ _
    rw [aresults_2 (r := .tmp 8) (s := .tmp 9) (by kernel_rfl)]
    simp -implicitDefEqProofs (disch := (try simp only [sl]); try omega) only [aresult, Option.some.injEq, exists_eq_left', sm,Qj,Qi,Qq,QC,Qz,bd,QF,look,aput,QB,Qf,QA,ty,↓reduceIte,Nat.reduceEqDiff,Nat.reduceAdd,Nat.reduceSub,Nat.reduceMul,Int.reduceLT,Int.reduceLE,Int.reduceNeg,Int.reduceToNat,reduceCtorEq,Nat.reduceBEq,Nat.reduceBNe,Qk,Qe,Value.cells,am,mm,keep, aint]
    exact ⟨Ext.refl _, .inl (.inr (.inr (.inl h3)))⟩
  by_cases h4 : z > 1024
  · -- (cursor back)
    iterate 1 ((repeat first | refine Qo ?_ | refine Qn ?_); (first | refine Qp (by kernel_rfl) ?_); simp -implicitDefEqProofs (disch := (try simp only [sl]); try omega) only [sm,QJ,Qj,Qi,Qq,QC,bd,look,aput,QB,Qf,QI,abin,anil,ty,↓reduceIte,Nat.reduceEqDiff,Nat.reduceAdd,Nat.reduceSub,Nat.reduceMul,Int.reduceLT,Int.reduceLE,Int.reduceNeg,Int.reduceToNat,reduceCtorEq,Nat.reduceBEq,Nat.reduceBNe,Qk,Qe,Value.cells,am,mm,keep, aint, h1, h2, h3, h4])
    repeat first | refine Qo ?_ | refine Qn ?_
    refine awp_if true rfl (by simp only [aeval_tmp, look, ↓reduceIte, Nat.reduceEqDiff]; try rfl) (fun _ => ?_) (fun h => absurd h (by decide))
    iterate 1 ((repeat first | refine Qo ?_ | refine Qn ?_); (first | refine Qp (by kernel_rfl) ?_); simp -implicitDefEqProofs (disch := (try simp only [sl]); try omega) only [sm,QJ,Qj,Qi,Qq,QC,bd,look,aput,QB,Qf,ty,↓reduceIte,Nat.reduceEqDiff,Nat.reduceAdd,Nat.reduceSub,Nat.reduceMul,Int.reduceLT,Int.reduceLE,Int.reduceNeg,Int.reduceToNat,reduceCtorEq,Nat.reduceBEq,Nat.reduceBNe,Qk,Qe,Value.cells,am,mm,keep, aint])
    first | refine awp_ret ?_ | skip
    show ∃ v, aresults Try.prog Try.f13 _ _ = some v ∧ _
    rw [aresults_2 (r := .tmp 8) (s := .tmp 9) (by kernel_rfl)]
    simp -implicitDefEqProofs (disch := (try simp only [sl]); try omega) only [aresult, Option.some.injEq, exists_eq_left', sm,Qj,Qi,Qq,QC,Qz,bd,QF,look,aput,QB,Qf,QA,ty,↓reduceIte,Nat.reduceEqDiff,Nat.reduceAdd,Nat.reduceSub,Nat.reduceMul,Int.reduceLT,Int.reduceLE,Int.reduceNeg,Int.reduceToNat,reduceCtorEq,Nat.reduceBEq,Nat.reduceBNe,Qk,Qe,Value.cells,am,mm,keep, aint]
    exact ⟨Ext.refl _, .inl (.inr (.inr (.inr h4)))⟩
  iterate 1 ((repeat first | refine Qo ?_ | refine Qn ?_); (first | refine Qp (by kernel_rfl) ?_); simp -implicitDefEqProofs (disch := (try simp only [sl]); try omega) only [sm,QJ,Qj,Qi,Qq,QC,bd,look,aput,QB,Qf,QI,abin,anil,ty,↓reduceIte,Nat.reduceEqDiff,Nat.reduceAdd,Nat.reduceSub,Nat.reduceMul,Int.reduceLT,Int.reduceLE,Int.reduceNeg,Int.reduceToNat,reduceCtorEq,Nat.reduceBEq,Nat.reduceBNe,Qk,Qe,Value.cells,am,mm,keep, aint, h1, h2, h3, h4])
  repeat first | refine Qo ?_ | refine Qn ?_
  refine awp_if false rfl (by simp only [aeval_tmp, look, ↓reduceIte, Nat.reduceEqDiff]; try rfl) (fun h => absurd h (by decide)) (fun _ => ?_)
  have hoff : ¬ Off r z := fun h => by rcases h with h | h | h | h <;> omega
  obtain ⟨m, rfl⟩ := Int.eq_ofNat_of_zero_le (show 0 ≤ z by omega)
  rw [Int.toNat_natCast]
  iterate 3 ((repeat first | refine Qo ?_ | refine Qn ?_); (first | refine awp_skip ?_ | refine Qp (by kernel_rfl) ?_); simp -implicitDefEqProofs (disch := (try simp only [sl]); try omega) only [sm,QJ,Qj,Qi,Qq,QC,bd,look,aput,QB,Qf,ty,↓reduceIte,Nat.reduceEqDiff,Nat.reduceAdd,Nat.reduceSub,Nat.reduceMul,Int.reduceLT,Int.reduceLE,Int.reduceNeg,Int.reduceToNat,reduceCtorEq,Nat.reduceBEq,Nat.reduceBNe,Qk,Qe,Value.cells,am,mm,keep, aint])
  repeat first | refine Qo ?_ | refine Qn ?_
  refine awp_forK [0, 1, 2, 3] (fun i : Nat × AH × Value => [(10, i.2.2), (11, U32 (UInt32.ofNat (i.1 + 1)))]) (fun i : Nat × AH × Value => i.2.1) (fun i : Nat × AH × Value => 32 * i.1 < m + 32 ∧ Keeps H.length H i.2.1 ∧ OS H.length i.2.1 i.2.2 ((outN k s r i.1).map U8)) (fun i : Nat × AH × Value => m + 32 - 32 * i.1) ((0, H, .slice none 0 0)) (⟨by simp only []; omega, Keeps.refl _ _, OS.nil _ _⟩) (by repeat first | exact Forgets.nil | refine Forgets.cons (by first | (simp only [look, ↓reduceIte, Nat.reduceEqDiff]; done) | (simp only [look, ↓reduceIte, Nat.reduceEqDiff]; rfl) | simp [look]) ?_) rfl ?_
  rintro ⟨n, H1, s1⟩ ⟨hn, k1, o1⟩
  simp only [] at hn k1 o1 ⊢
  have x1 : Ext H H1 := k1.ext (Nat.le_refl _) (Ext.refl _)
  have hol := outN_length k s r n
  have ls := alen_sl (P := Try.prog) (T := 22) (by simp only [ty]) o1.sl
  rw [List.length_map, hol] at ls
  try simp -implicitDefEqProofs (disch := (try simp only [sl]); try omega) only [sm,QJ,Qj,Qi,Qq,QC,bd,look,aput,QB,Qf,ty,↓reduceIte,Nat.reduceEqDiff,Nat.reduceAdd,Nat.reduceSub,Nat.reduceMul,Int.reduceLT,Int.reduceLE,Int.reduceNeg,Int.reduceToNat,reduceCtorEq,Nat.reduceBEq,Nat.reduceBNe,Qk,Qe,Value.cells,am,mm,keep, aint]
  iterate 1 ((repeat first | refine Qo ?_ | refine Qn ?_); (first | refine Qp (by kernel_rfl) ?_); simp -implicitDefEqProofs (disch := (try simp only [sl]); try omega) only [sm,QJ,Qj,Qi,Qq,QC,bd,look,aput,QB,Qf,QI,abin,anil,ty,↓reduceIte,Nat.reduceEqDiff,Nat.reduceAdd,Nat.reduceSub,Nat.reduceMul,Int.reduceLT,Int.reduceLE,Int.reduceNeg,Int.reduceToNat,reduceCtorEq,Nat.reduceBEq,Nat.reduceBNe,Qk,Qe,Value.cells,am,mm,keep, aint, ls])
  repeat first | refine Qo ?_ | refine Qn ?_
  refine awp_if _ rfl (by simp only [aeval_tmp, look, ↓reduceIte, Nat.reduceEqDiff]; exact rfl) ?_ ?_
  · intro hlt
    try simp only [ge_iff_le, gt_iff_lt, decide_eq_true_eq, decide_eq_false_iff_not, Nat.not_lt, Int.not_lt, Nat.not_le, Int.not_le, Bool.and_eq_true, Bool.or_eq_true, Bool.or_eq_false_iff, bne_iff_ne, ne_eq, beq_iff_eq, bne_eq_false_iff_eq, beq_eq_false_iff_ne, Bool.not_eq_true, Bool.not_eq_false, Bool.not_eq_eq_eq_not, Bool.not_true, Bool.not_false, Nat.not_le, Int.ofNat_lt, Int.ofNat_le, Int.natCast_inj] at hlt
    iterate 2 ((repeat first | refine Qo ?_ | refine Qn ?_); (first | refine awp_skip ?_ | refine Qp (by kernel_rfl) ?_); simp -implicitDefEqProofs (disch := (try simp only [sl]); try omega) only [sm,QJ,Qj,Qi,Qq,QC,bd,look,aput,Qm,QB,Qf,ty,↓reduceIte,Nat.reduceEqDiff,Nat.reduceAdd,Nat.reduceSub,Nat.reduceMul,Int.reduceLT,Int.reduceLE,Int.reduceNeg,Int.reduceToNat,reduceCtorEq,Nat.reduceBEq,Nat.reduceBNe,Qk,Qe,Value.cells,am,mm,keep, aint])
    refine ACalls.mono (stblock_calls pv sv k s r (UInt32.ofNat (n + 1)) H1 (hk.mono x1) (hs.mono x1) hkl hsl hr0 hr1) ?_
    rintro _ H2 ⟨rfl, e2⟩
    have hbl := blockS_length k s r (UInt32.ofNat (n + 1))
    have hos := outN_succ k s r n
    generalize blockS k s r (UInt32.ofNat (n + 1)) = bb at *
    try simp -implicitDefEqProofs (disch := (try simp only [sl]); try omega) only [sm,QJ,Qj,Qi,Qq,QC,bd,look,aput,Qm,QB,Qf,ty,↓reduceIte,Nat.reduceEqDiff,Nat.reduceAdd,Nat.reduceSub,Nat.reduceMul,Int.reduceLT,Int.reduceLE,Int.reduceNeg,Int.reduceToNat,reduceCtorEq,Nat.reduceBEq,Nat.reduceBNe,Qk,Qe,Value.cells,am,mm,keep, aint, hbl]
    have o2 := (o1.mono e2).mono (Ext.push H2 [ABlk.own (bb.map U8)])
    have k2 : Keeps H.length H (H2 ++ [ABlk.own (bb.map U8)]) := (k1.trans (Keeps.of_ext e2 k1.1)).push (Nat.le_refl _) _
    have t2 : SL (H2 ++ [ABlk.own (bb.map U8)]) (.slice (some ⟨H2.length, 0, none⟩) 32 0) (bb.map U8) := SL.own 32 (by rw [List.length_map, hbl]) (gpush _ _)
    obtain ⟨s3, H3, ha3, o3, k3⟩ := OS.app (P := Try.prog) (t := 22) (tx := 22) (bytes := 1) (by simp only [ty]) (by simp only [ty]) o2 t2 (all8 _) (by rw [List.length_map, List.length_map]; omega) (by decide) k2.1
    rw [← List.map_append, ← hos] at o3
    have hw11 : IntKind.u32.wrap (((n : Int) + 1) % 4294967296 + 1) = ((n : Int) + 1 + 1) % 4294967296 := by rw [wrap32]; omega
    iterate 2 ((repeat first | refine Qo ?_ | refine Qn ?_); (first | refine Qp (by kernel_rfl) ?_); simp -implicitDefEqProofs (disch := (try simp only [sl]); try omega) only [sm,QJ,Qj,Qi,Qq,QC,bd,look,aput,Qm,QB,Qf,QI,abin,anil,Qr,loN,hiN,ty,↓reduceIte,Nat.reduceEqDiff,Nat.reduceAdd,Nat.reduceSub,Nat.reduceMul,Int.reduceLT,Int.reduceLE,Int.reduceNeg,Int.reduceToNat,reduceCtorEq,Nat.reduceBEq,Nat.reduceBNe,Qk,Qe,Value.cells,am,mm,keep, aint, hbl, ha3])
    refine ⟨(n + 1, H3, s3), ⟨by simp only []; omega, k2.trans k3, o3⟩, (by repeat first | exact Forgets.nil | refine Forgets.cons (by first | (simp only [look, ↓reduceIte, Nat.reduceEqDiff]; done) | (simp only [look, ↓reduceIte, Nat.reduceEqDiff]; rfl) | simp [look, hw11]) ?_), ?_⟩
    first | omega | exact ⟨rfl, by omega⟩ | exact ⟨rfl, by simp only []; omega⟩ | (simp only []; omega)
  intro hge
  try simp only [ge_iff_le, gt_iff_lt, decide_eq_true_eq, decide_eq_false_iff_not, Nat.not_lt, Int.not_lt, Nat.not_le, Int.not_le, Bool.and_eq_true, Bool.or_eq_true, Bool.or_eq_false_iff, bne_iff_ne, ne_eq, beq_iff_eq, bne_eq_false_iff_eq, beq_eq_false_iff_ne, Bool.not_eq_true, Bool.not_eq_false, Bool.not_eq_eq_eq_not, Bool.not_true, Bool.not_false, Nat.not_le, Int.ofNat_lt, Int.ofNat_le, Int.natCast_inj] at hge
  have hke := keyN_eq k s r m n (by omega) hn
  rcases o1 with ⟨rfl, hnil⟩ | ⟨g, rfl, hg, hb⟩
  · have hl := congrArg List.length hnil
    rw [List.length_map, hol] at hl
    have hl : 32 * n = 0 := hl
    obtain rfl : m = 0 := by omega
    iterate 2 ((repeat first | refine Qo ?_ | refine Qn ?_); (first | refine awp_exit ?_ | refine Qp (by kernel_rfl) ?_); simp -implicitDefEqProofs (disch := (try simp only [sl]); try omega) only [sm,QJ,Qj,Qi,Qq,QC,bd,look,aput,QB,Qf,Qr,loN,hiN,ty,↓reduceIte,Nat.reduceEqDiff,Nat.reduceAdd,Nat.reduceSub,Nat.reduceMul,Int.reduceLT,Int.reduceLE,Int.reduceNeg,Int.reduceToNat,reduceCtorEq,Nat.reduceBEq,Nat.reduceBNe,Qk,Qe,Value.cells,am,mm,keep, aint])
    first | refine awp_ret ?_ | skip
    show ∃ v, aresults Try.prog Try.f13 _ _ = some v ∧ _
    rw [aresults_2 (r := .tmp 8) (s := .tmp 9) (by kernel_rfl)]
    simp -implicitDefEqProofs (disch := (try simp only [sl]); try omega) only [aresult, Option.some.injEq, exists_eq_left', sm,Qj,Qi,Qq,QC,Qz,bd,QF,look,aput,QB,Qf,QA,ty,↓reduceIte,Nat.reduceEqDiff,Nat.reduceAdd,Nat.reduceSub,Nat.reduceMul,Int.reduceLT,Int.reduceLE,Int.reduceNeg,Int.reduceToNat,reduceCtorEq,Nat.reduceBEq,Nat.reduceBNe,Qk,Qe,Value.cells,am,mm,keep, aint]
    refine ⟨x1, .inr ⟨hoff, _, rfl, ?_, fun g o n e h => by cases h⟩⟩
    rw [← hke]
    exact .inl ⟨rfl, rfl⟩
  have c1 := AH.cells_own hg
  rw [List.length_map, hol]
  have hmn : m ≤ 32 * n := by omega
  iterate 2 ((repeat first | refine Qo ?_ | refine Qn ?_); (first | refine awp_exit ?_ | refine Qp (by kernel_rfl) ?_); simp -implicitDefEqProofs (disch := (try simp only [sl]); try omega) only [sm,QJ,Qj,Qi,Qq,QC,bd,look,aput,QB,Qf,Qr,loN,hiN,ty,↓reduceIte,Nat.reduceEqDiff,Nat.reduceAdd,Nat.reduceSub,Nat.reduceMul,Int.reduceLT,Int.reduceLE,Int.reduceNeg,Int.reduceToNat,reduceCtorEq,Nat.reduceBEq,Nat.reduceBNe,Qk,Qe,Value.cells,am,mm,keep, aint, hmn])
  first | refine awp_ret ?_ | skip
  show ∃ v, aresults Try.prog Try.f13 _ _ = some v ∧ _
  rw [aresults_2 (r := .tmp 8) (s := .tmp 9) (by kernel_rfl)]
  simp -implicitDefEqProofs (disch := (try simp only [sl]); try omega) only [aresult, Option.some.injEq, exists_eq_left', sm,Qj,Qi,Qq,QC,Qz,bd,QF,look,aput,QB,Qf,QA,ty,↓reduceIte,Nat.reduceEqDiff,Nat.reduceAdd,Nat.reduceSub,Nat.reduceMul,Int.reduceLT,Int.reduceLE,Int.reduceNeg,Int.reduceToNat,reduceCtorEq,Nat.reduceBEq,Nat.reduceBNe,Qk,Qe,Value.cells,am,mm,keep, aint]
  refine ⟨x1, .inr ⟨hoff, _, rfl, ?_, fun g' o n e h => by cases h; exact hb⟩⟩
  rw [← hke, ← List.drop_zero (l := outN k s r n), Nat.sub_zero]
  exact SL.part m c1 (by omega)
theorem stkey_calls (pv sv : Value) (k s : List UInt8) (r z : Int) (H : AH) (hk : SL H pv (k.map U8)) (hs : SL H sv (s.map U8)) (hkl : k.length ≤ 1099511627000) (hsl : s.length ≤ 1099511610000) (hr0 : -9223372036854775808 ≤ r) (hr1 : r ≤ 9223372036854775807) (hz0 : -9223372036854775808 ≤ z) (hz1 : z ≤ 9223372036854775807) :
    ACalls Try.prog 13 #[pv, sv, .int .i64 r, .int .i64 z] H fun v H' => Ext H H' ∧ ((Off r z ∧ v = .tuple #[.slice none 0 0, .int .i64 1]) ∨ ¬ Off r z ∧ ∃ u, v = .tuple #[u, .int .i64 0] ∧ SL H' u ((keyN k s r z.toNat).map U8)) :=
  ACalls.mono (stkey_calls' pv sv k s r z H hk hs hkl hsl hr0 hr1 hz0 hz1) fun v H' h => ⟨h.1, h.2.imp id fun ⟨h1, u, h2, h3, _⟩ => ⟨h1, u, h2, h3⟩⟩
end Go.Proofs.Ytelpdppdhimfoaa
