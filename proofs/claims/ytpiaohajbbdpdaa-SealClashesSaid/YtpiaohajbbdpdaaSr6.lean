/- The document's padded text, and its step. The document's step: a block turns a state. The document's digest is the program's. -/
import Derived.Test.YtpiaohajbbdpdaaSr3

namespace Go.Proofs.Ytpiaohajbbdpdaa
open Go Go.RowKit
set_option linter.unusedSimpArgs false
set_option linter.unusedVariables false
set_option maxRecDepth 4000
set_option maxHeartbeats 4000000 in
theorem pad_calls (v : Value) (bs : List UInt8) (H : AH) (hv : SL H v (bs.map U8)) (hl : bs.length ≤ 1099511627000) :
    ACalls Try.prog 46 #[v] H fun v H' => SL H' v ((bs ++ padB bs.length).map U8) ∧ Ext H H' := by
  have lv := alen_sl (P := Try.prog) (T := 26) (by simp only [ty]) hv
  rw [List.length_map] at lv
  obtain ⟨s1, H1, ha1, o1, k1⟩ := OS.app (P := Try.prog) (t := 26) (tx := 26) (bytes := 1) (by simp only [ty]) (by simp only [ty]) (OS.nil H.length H) hv (all8 _) (by rw [List.length_nil, List.length_map]; omega) (by decide) (Nat.le_refl _)
  rw [List.nil_append] at o1
  obtain ⟨s2, H2, ha2, o2, k2⟩ := OS.app1 (P := Try.prog) (t := 26) (tx := 26) (bytes := 1) (c := Value.int .u8 128) (by simp only [ty]) (by simp only [ty]) o1 rfl (by rw [List.length_map]; omega) (by decide) k1.1
  have k2 := k1.trans k2
  refine acalls_of_body Try.func46 rfl Try.ntmps46 (by simp) ?_
  simp only [argsT, Nat.reduceAdd]
  iterate 2 ((repeat first | refine Qo ?_ | refine Qn ?_); (first | refine Qp (by kernel_rfl) ?_); simp -implicitDefEqProofs (disch := (try simp only [sl]); try omega) only [sm,QJ,Qj,Qi,Qq,QC,bd,look,aput,Qm,QB,Qf,ty,↓reduceIte,Nat.reduceEqDiff,Nat.reduceAdd,Nat.reduceSub,Nat.reduceMul,Int.reduceLT,Int.reduceLE,Int.reduceNeg,Int.reduceToNat,reduceCtorEq,Nat.reduceBEq,Nat.reduceBNe,Qk,Qe,Value.cells,am,mm,keep, ha1, ha2])
  have o2 : OS H.length H2 s2 ((bs ++ (128 :: zb 0)).map U8) := by
    have : (bs ++ (128 :: zb 0)).map U8 = bs.map U8 ++ [Value.int .u8 128] := by rw [List.map_append]; rfl
    rw [this]; exact o2
  have hpz : zN bs.length ≤ 63 := by unfold zN; omega
  repeat first | refine Qo ?_ | refine Qn ?_
  refine awp_forK [0] (fun i : Nat × AH × Value => [(3, i.2.2)]) (fun i : Nat × AH × Value => i.2.1) (fun i : Nat × AH × Value => i.1 ≤ zN bs.length ∧ Keeps H.length H i.2.1 ∧ OS H.length i.2.1 i.2.2 ((bs ++ (128 :: zb i.1)).map U8)) (fun i : Nat × AH × Value => zN bs.length - i.1) ((0, H2, s2)) (⟨Nat.zero_le _, k2, o2⟩) (by repeat first | exact Forgets.nil | refine Forgets.cons (by first | (simp only [look, ↓reduceIte, Nat.reduceEqDiff]; done) | (simp only [look, ↓reduceIte, Nat.reduceEqDiff]; rfl) | simp [look]) ?_) rfl ?_
  clear o2 k2 o1 ha1 ha2
  rintro ⟨j, H3, s3⟩ ⟨hj, k3, o3⟩
  simp only [] at hj k3 o3 ⊢
  have ls := alen_sl (P := Try.prog) (T := 26) (by simp only [ty]) o3.sl
  rw [List.length_map, List.length_append, List.length_cons, zb_length] at ls
  have hcond : ((bs.length + (j + 1) : Nat) : Int).tmod 64 = (((bs.length + (j + 1)) % 64 : Nat) : Int) := by
    rw [Int.tmod_eq_emod_of_nonneg (by omega)]; omega
  try simp -implicitDefEqProofs (disch := (try simp only [sl]); try omega) only [sm,QJ,Qj,Qi,Qq,QC,bd,look,aput,Qm,QB,Qf,ty,↓reduceIte,Nat.reduceEqDiff,Nat.reduceAdd,Nat.reduceSub,Nat.reduceMul,Int.reduceLT,Int.reduceLE,Int.reduceNeg,Int.reduceToNat,reduceCtorEq,Nat.reduceBEq,Nat.reduceBNe,Qk,Qe,Value.cells,am,mm,keep]
  iterate 1 ((repeat first | refine Qo ?_ | refine Qn ?_); (first | refine Qp (by kernel_rfl) ?_); simp -implicitDefEqProofs (disch := (try simp only [sl]); try omega) only [sm,QJ,Qj,Qi,Qq,QC,bd,look,aput,QB,Qf,QI,abin,anil,ty,↓reduceIte,Nat.reduceEqDiff,Nat.reduceAdd,Nat.reduceSub,Nat.reduceMul,Int.reduceLT,Int.reduceLE,Int.reduceNeg,Int.reduceToNat,reduceCtorEq,Nat.reduceBEq,Nat.reduceBNe,Qk,Qe,Value.cells,am,mm,keep, ls, hcond])
  repeat first | refine Qo ?_ | refine Qn ?_
  refine awp_if _ rfl (by simp only [aeval_tmp, look, ↓reduceIte, Nat.reduceEqDiff]; exact rfl) ?_ ?_
  · intro hne
    try simp only [ge_iff_le, gt_iff_lt, decide_eq_true_eq, decide_eq_false_iff_not, Nat.not_lt, Int.not_lt, Nat.not_le, Int.not_le, Bool.and_eq_true, Bool.or_eq_true, Bool.or_eq_false_iff, bne_iff_ne, ne_eq, beq_iff_eq, bne_eq_false_iff_eq, beq_eq_false_iff_ne, Bool.not_eq_true, Bool.not_eq_false, Bool.not_eq_eq_eq_not, Bool.not_true, Bool.not_false, Nat.not_le, Int.ofNat_lt, Int.ofNat_le, Int.natCast_inj] at hne
    have hj' : j < zN bs.length := by unfold zN at hj ⊢; omega
    obtain ⟨s4, H4, ha, o4, k4⟩ := OS.app1 (P := Try.prog) (t := 26) (tx := 26) (bytes := 1) (c := Value.int .u8 0) (by simp only [ty]) (by simp only [ty]) o3 rfl (by rw [List.length_map, List.length_append, List.length_cons, zb_length]; omega) (by decide) k3.1
    have hsx : (bs ++ (128 :: zb (j + 1))).map U8 = (bs ++ (128 :: zb j)).map U8 ++ [Value.int .u8 0] := by rw [← zb_succ, ← List.append_assoc, List.map_append]; rfl
    iterate 2 ((repeat first | refine Qo ?_ | refine Qn ?_); (first | refine awp_skip ?_ | refine Qp (by kernel_rfl) ?_); simp -implicitDefEqProofs (disch := (try simp only [sl]); try omega) only [sm,QJ,Qj,Qi,Qq,QC,bd,look,aput,Qm,QB,Qf,ty,↓reduceIte,Nat.reduceEqDiff,Nat.reduceAdd,Nat.reduceSub,Nat.reduceMul,Int.reduceLT,Int.reduceLE,Int.reduceNeg,Int.reduceToNat,reduceCtorEq,Nat.reduceBEq,Nat.reduceBNe,Qk,Qe,Value.cells,am,mm,keep, ha])
    refine ⟨(j + 1, H4, s4), ⟨by simp only []; omega, k3.trans k4, by simp only []; rw [hsx]; exact o4⟩, (by repeat first | exact Forgets.nil | refine Forgets.cons (by first | (simp only [look, ↓reduceIte, Nat.reduceEqDiff]; done) | (simp only [look, ↓reduceIte, Nat.reduceEqDiff]; rfl) | simp [look]) ?_), ?_⟩
    first | omega | exact ⟨rfl, by omega⟩ | exact ⟨rfl, by simp only []; omega⟩ | (simp only []; omega)
  intro heq
  try simp only [ge_iff_le, gt_iff_lt, decide_eq_true_eq, decide_eq_false_iff_not, Nat.not_lt, Int.not_lt, Nat.not_le, Int.not_le, Bool.and_eq_true, Bool.or_eq_true, Bool.or_eq_false_iff, bne_iff_ne, ne_eq, beq_iff_eq, bne_eq_false_iff_eq, beq_eq_false_iff_ne, Bool.not_eq_true, Bool.not_eq_false, Bool.not_eq_eq_eq_not, Bool.not_true, Bool.not_false, Nat.not_le, Int.ofNat_lt, Int.ofNat_le, Int.natCast_inj] at heq
  have hj' : j = zN bs.length := by unfold zN at hj ⊢; omega
  subst hj'
  iterate 3 ((repeat first | refine Qo ?_ | refine Qn ?_); (first | refine awp_exit ?_ | refine Qp (by kernel_rfl) ?_); simp -implicitDefEqProofs (disch := (try simp only [sl]); try omega) only [sm,QJ,Qj,Qi,Qq,QC,Qz,bd,QF,look,aput,QH,QB,Qf,Qg,QI,abin,anil,ty,↓reduceIte,Nat.reduceEqDiff,Nat.reduceAdd,Nat.reduceSub,Nat.reduceMul,Int.reduceLT,Int.reduceLE,Int.reduceNeg,Int.reduceToNat,reduceCtorEq,Nat.reduceBEq,Nat.reduceBNe,Qk,Qe,Value.cells,am,mm,keep, lv, wnat64])
  generalize hP : 128 :: zb (zN bs.length) = P at *
  have hPl : P.length = zN bs.length + 1 := by rw [← hP, List.length_cons, zb_length]
  have hpB : padB bs.length = P ++ (List.range 8).map (lenB (UInt64.ofNat bs.length)) := by rw [padB, hP]
  rw [hpB]
  generalize hN : UInt64.ofNat bs.length = n at *
  have o5 : OS H.length H3 s3 ((bs ++ (P ++ (List.range 0).map (lenB n))).map U8) := by rw [List.range_zero, List.map_nil, List.append_nil]; exact o3
  repeat first | refine Qo ?_ | refine Qn ?_
  refine awp_forK [4] (fun i : Nat × AH × Value => [(5, .int .i64 (56 - 8 * (i.1 : Int))), (3, i.2.2)]) (fun i : Nat × AH × Value => i.2.1) (fun i : Nat × AH × Value => i.1 ≤ 8 ∧ Keeps H.length H i.2.1 ∧ OS H.length i.2.1 i.2.2 ((bs ++ (P ++ (List.range i.1).map (lenB n))).map U8)) (fun i : Nat × AH × Value => 8 - i.1) ((0, H3, s3)) (⟨by omega, k3, o5⟩) (by repeat first | exact Forgets.nil | refine Forgets.cons (by first | (simp only [look, ↓reduceIte, Nat.reduceEqDiff]; done) | (simp only [look, ↓reduceIte, Nat.reduceEqDiff]; rfl) | simp [look]) ?_) rfl ?_
  clear o5 o3 k3 ls hcond
  rintro ⟨j, H3, s3⟩ ⟨hj, k3, o3⟩
  simp only [] at hj k3 o3 ⊢
  try simp -implicitDefEqProofs (disch := (try simp only [sl]); try omega) only [sm,QJ,Qj,Qi,Qq,QC,bd,look,aput,QB,Qf,ty,↓reduceIte,Nat.reduceEqDiff,Nat.reduceAdd,Nat.reduceSub,Nat.reduceMul,Int.reduceLT,Int.reduceLE,Int.reduceNeg,Int.reduceToNat,reduceCtorEq,Nat.reduceBEq,Nat.reduceBNe,Qk,Qe,Value.cells,am,mm,keep]
  iterate 1 ((repeat first | refine Qo ?_ | refine Qn ?_); (first | refine Qp (by kernel_rfl) ?_); simp -implicitDefEqProofs (disch := (try simp only [sl]); try omega) only [sm,QJ,Qj,Qi,Qq,QC,bd,look,aput,QB,Qf,QI,abin,anil,ty,↓reduceIte,Nat.reduceEqDiff,Nat.reduceAdd,Nat.reduceSub,Nat.reduceMul,Int.reduceLT,Int.reduceLE,Int.reduceNeg,Int.reduceToNat,reduceCtorEq,Nat.reduceBEq,Nat.reduceBNe,Qk,Qe,Value.cells,am,mm,keep, aint])
  repeat first | refine Qo ?_ | refine Qn ?_
  refine awp_if _ rfl (by simp only [aeval_tmp, look, ↓reduceIte, Nat.reduceEqDiff]; exact rfl) ?_ ?_
  · intro hge
    try simp only [ge_iff_le, gt_iff_lt, decide_eq_true_eq, decide_eq_false_iff_not, Nat.not_lt, Int.not_lt, Nat.not_le, Int.not_le, Bool.and_eq_true, Bool.or_eq_true, Bool.or_eq_false_iff, bne_iff_ne, ne_eq, beq_iff_eq, bne_eq_false_iff_eq, beq_eq_false_iff_ne, Bool.not_eq_true, Bool.not_eq_false, Bool.not_eq_eq_eq_not, Bool.not_true, Bool.not_false, Nat.not_le, Int.ofNat_lt, Int.ofNat_le, Int.natCast_inj] at hge
    obtain ⟨k, hk, hk'⟩ : ∃ k : Nat, (56 - 8 * (j : Int)) = (k : Int) ∧ k = 8 * (7 - j) := ⟨8 * (7 - j), by omega, rfl⟩
    rw [hk]
    have hwk : IntKind.i64.wrap ((k : Int) - 8) = 56 - 8 * ((j + 1 : Nat) : Int) := by rw [wj64 (by omega) (by omega)]; omega
    obtain ⟨s4, H4, ha, o4, k4⟩ := OS.app1 (P := Try.prog) (t := 26) (tx := 26) (bytes := 1) (c := U8 (lenB n j)) (by simp only [ty]) (by simp only [ty]) o3 rfl (by simp [hPl]; omega) (by decide) k3.1
    rw [lenB, ← hk', UInt64.mul_comm 8 n] at ha
    iterate 3 ((repeat first | refine Qo ?_ | refine Qn ?_); (first | refine awp_skip ?_ | refine Qp (by kernel_rfl) ?_); simp -implicitDefEqProofs (disch := (try simp only [sl]); try omega) only [sm,QJ,Qj,Qi,Qq,QC,Qz,bd,QF,look,aput,Qm,QH,QB,Qf,Qg,QI,abin,anil,ty,↓reduceIte,Nat.reduceEqDiff,Nat.reduceAdd,Nat.reduceSub,Nat.reduceMul,Int.reduceLT,Int.reduceLE,Int.reduceNeg,Int.reduceToNat,reduceCtorEq,Nat.reduceBEq,Nat.reduceBNe,Qk,Qe,Value.cells,am,mm,keep, ha, aint, hwk])
    have hsx : (bs ++ (P ++ (List.range (j + 1)).map (lenB n))).map U8 = (bs ++ (P ++ (List.range j).map (lenB n))).map U8 ++ [U8 (lenB n j)] := by simp [List.range_succ]
    refine ⟨(j + 1, H4, s4), ⟨by simp only []; omega, k3.trans k4, by simp only []; rw [hsx]; exact o4⟩, (by repeat first | exact Forgets.nil | refine Forgets.cons (by first | (simp only [look, ↓reduceIte, Nat.reduceEqDiff]; done) | (simp only [look, ↓reduceIte, Nat.reduceEqDiff]; rfl) | simp [look]) ?_), ?_⟩
    first | omega | exact ⟨rfl, by omega⟩ | exact ⟨rfl, by simp only []; omega⟩ | (simp only []; omega)
  intro hlt
  try simp only [ge_iff_le, gt_iff_lt, decide_eq_true_eq, decide_eq_false_iff_not, Nat.not_lt, Int.not_lt, Nat.not_le, Int.not_le, Bool.and_eq_true, Bool.or_eq_true, Bool.or_eq_false_iff, bne_iff_ne, ne_eq, beq_iff_eq, bne_eq_false_iff_eq, beq_eq_false_iff_ne, Bool.not_eq_true, Bool.not_eq_false, Bool.not_eq_eq_eq_not, Bool.not_true, Bool.not_false, Nat.not_le, Int.ofNat_lt, Int.ofNat_le, Int.natCast_inj] at hlt
  obtain rfl : j = 8 := by omega
  iterate 2 ((repeat first | refine Qo ?_ | refine Qn ?_); (first | refine awp_exit ?_ | refine Qp (by kernel_rfl) ?_); simp -implicitDefEqProofs (disch := (try simp only [sl]); try omega) only [sm,QJ,Qj,Qi,Qq,QC,bd,look,aput,QB,Qf,ty,↓reduceIte,Nat.reduceEqDiff,Nat.reduceAdd,Nat.reduceSub,Nat.reduceMul,Int.reduceLT,Int.reduceLE,Int.reduceNeg,Int.reduceToNat,reduceCtorEq,Nat.reduceBEq,Nat.reduceBNe,Qk,Qe,Value.cells,am,mm,keep])
  first | refine awp_ret ?_ | skip
  show ∃ v, aresults Try.prog Try.f46 _ _ = some v ∧ _
  rw [aresults_1 (r := .tmp 2) (by kernel_rfl)]
  simp -implicitDefEqProofs (disch := (try simp only [sl]); try omega) only [aresult, Option.some.injEq, exists_eq_left', sm,Qj,Qi,Qq,QC,Qz,bd,QF,look,aput,QB,Qf,QA,ty,↓reduceIte,Nat.reduceEqDiff,Nat.reduceAdd,Nat.reduceSub,Nat.reduceMul,Int.reduceLT,Int.reduceLE,Int.reduceNeg,Int.reduceToNat,reduceCtorEq,Nat.reduceBEq,Nat.reduceBNe,Qk,Qe,Value.cells,am,mm,keep]
  exact ⟨o3.sl, k3.ext (Nat.le_refl _) (Ext.refl _)⟩
theorem div8 (x : UInt32) : x / (8 : UInt32) = x >>> (3 : UInt32) := by
  rw [← UInt32.toNat_inj, UInt32.toNat_div, UInt32.toNat_shiftRight]
  simp only [UInt32.reduceToNat, Nat.reduceMod, Nat.shiftRight_eq_div_pow, Nat.reducePow]
theorem div1024 (x : UInt32) : x / (1024 : UInt32) = x >>> (10 : UInt32) := by
  rw [← UInt32.toNat_inj, UInt32.toNat_div, UInt32.toNat_shiftRight]
  simp only [UInt32.reduceToNat, Nat.reduceMod, Nat.shiftRight_eq_div_pow, Nat.reducePow]
theorem ones_sub (x : UInt32) : 4294967295 - x = ~~~x := by
  rw [← UInt32.toBitVec_inj, UInt32.toBitVec_sub, UInt32.toBitVec_not]
  show BitVec.ofNat 32 4294967295 - x.toBitVec = ~~~x.toBitVec
  rw [show BitVec.ofNat 32 4294967295 = BitVec.allOnes 32 from rfl, BitVec.allOnes_sub_eq_not]
theorem sched_take (bs : List UInt8) (z : List UInt32) (t : Nat) (h : t < z.length) : (schedA bs z (t + 1)).take (t + 1) = (schedA bs z t).take t ++ [nextW bs (schedA bs z t) t] := by
  have hl := schedA_length bs z t
  rw [schedA, List.take_add_one, List.take_set_of_le (Nat.le_refl _), List.getElem?_set_self (by omega)]; rfl
end Go.Proofs.Ytpiaohajbbdpdaa

namespace Go.Proofs.Ytpiaohajbbdpdaa
open Go Go.RowKit
set_option linter.unusedSimpArgs false
set_option linter.unusedVariables false
set_option maxRecDepth 4000
theorem be32L_at (bs : List UInt8) (t : Nat) (h : 4 * t + 4 ≤ bs.length) : be32L ((bs.drop (4 * t)).take 4) = be32 (bs.getD (4 * t) 0) (bs.getD (4 * t + 1) 0) (bs.getD (4 * t + 2) 0) (bs.getD (4 * t + 3) 0) := by
  unfold be32L
  simp only [List.getD_eq_getElem?_getD, List.getElem?_take, List.getElem?_drop, Nat.reduceLT, if_true, Nat.add_zero, Nat.zero_lt_succ]
theorem take_getD (l : List UInt32) (t i : Nat) (h : i < t) : (l.take t).getD i 0 = l.getD i 0 := by
  rw [List.getD_eq_getElem?_getD, List.getD_eq_getElem?_getD, List.getElem?_take, if_pos h]
set_option maxHeartbeats 8000000 in
theorem step_calls (vk vs vb : Value) (s : List UInt32) (bs : List UInt8) (H : AH) (hk : SL H vk (constL.map U32)) (hs : SL H vs (s.map U32)) (hb : SL H vb (bs.map U8)) (hsl : s.length = 8) (hbl : bs.length = 64) :
    ACalls Try.prog 47 #[vk, vs, vb] H fun v H' => SL H' v ((blockW s bs).map U32) ∧ Ext H H' := by
  have hB : blockW s bs = addL s (rndsL constL (schedA bs (zw 64) 64) s 64) := rfl
  have hkl : constL.length = 64 := rfl
  rw [hB]
  generalize constL = ks at *
  have hzl := zw_length 64
  generalize zw 64 = z at *
  refine acalls_of_body Try.func47 rfl Try.ntmps47 (by simp) ?_
  simp only [argsT, Nat.reduceAdd]
  iterate 3 ((repeat first | refine Qo ?_ | refine Qn ?_); (first | refine Qp (by kernel_rfl) ?_); simp -implicitDefEqProofs (disch := (try simp only [sl]); try omega) only [sm,QJ,Qj,Qi,Qq,QC,bd,look,aput,QB,Qf,ty,↓reduceIte,Nat.reduceEqDiff,Nat.reduceAdd,Nat.reduceSub,Nat.reduceMul,Int.reduceLT,Int.reduceLE,Int.reduceNeg,Int.reduceToNat,reduceCtorEq,Nat.reduceBEq,Nat.reduceBNe,Qk,Qe,Value.cells,am,mm,keep])
  repeat first | refine Qo ?_ | refine Qn ?_
  refine awp_forK [0, 1, 2] (fun i : Nat × AH × Value => [(8, I64 i.1), (7, i.2.2)]) (fun i : Nat × AH × Value => i.2.1) (fun i : Nat × AH × Value => i.1 ≤ 64 ∧ Ext H i.2.1 ∧ OS H.length i.2.1 i.2.2 (((schedA bs z i.1).take i.1).map U32)) (fun i : Nat × AH × Value => 64 - i.1) ((0, H, .slice none 0 0)) (⟨by omega, Ext.refl _, OS.nil _ _⟩) (by repeat first | exact Forgets.nil | refine Forgets.cons (by first | (simp only [look, ↓reduceIte, Nat.reduceEqDiff]; done) | (simp only [look, ↓reduceIte, Nat.reduceEqDiff]; rfl) | simp [look]) ?_) rfl ?_
  rintro ⟨t, H1, s1⟩ ⟨ht, e1, o1⟩
  simp only [] at ht e1 o1 ⊢
  have hwl : (schedA bs z t).length = 64 := by rw [schedA_length, hzl]
  have htl : ((schedA bs z t).take t).length = t := by rw [List.length_take]; omega
  try simp -implicitDefEqProofs (disch := (try simp only [sl]); try omega) only [sm,QJ,Qj,Qi,Qq,QC,bd,look,aput,QB,Qf,ty,↓reduceIte,Nat.reduceEqDiff,Nat.reduceAdd,Nat.reduceSub,Nat.reduceMul,Int.reduceLT,Int.reduceLE,Int.reduceNeg,Int.reduceToNat,reduceCtorEq,Nat.reduceBEq,Nat.reduceBNe,Qk,Qe,Value.cells,am,mm,keep]
  iterate 1 ((repeat first | refine Qo ?_ | refine Qn ?_); (first | refine Qp (by kernel_rfl) ?_); simp -implicitDefEqProofs (disch := (try simp only [sl]); try omega) only [sm,QJ,Qj,Qi,Qq,QC,bd,look,aput,QB,Qf,QI,abin,anil,ty,↓reduceIte,Nat.reduceEqDiff,Nat.reduceAdd,Nat.reduceSub,Nat.reduceMul,Int.reduceLT,Int.reduceLE,Int.reduceNeg,Int.reduceToNat,reduceCtorEq,Nat.reduceBEq,Nat.reduceBNe,Qk,Qe,Value.cells,am,mm,keep])
  repeat first | refine Qo ?_ | refine Qn ?_
  refine awp_if _ rfl (by simp only [aeval_tmp, look, ↓reduceIte, Nat.reduceEqDiff]; exact rfl) ?_ ?_
  · intro hlt
    try simp only [ge_iff_le, gt_iff_lt, decide_eq_true_eq, decide_eq_false_iff_not, Nat.not_lt, Int.not_lt, Nat.not_le, Int.not_le, Bool.and_eq_true, Bool.or_eq_true, Bool.or_eq_false_iff, bne_iff_ne, ne_eq, beq_iff_eq, bne_eq_false_iff_eq, beq_eq_false_iff_ne, Bool.not_eq_true, Bool.not_eq_false, Bool.not_eq_eq_eq_not, Bool.not_true, Bool.not_false, Nat.not_le, Int.ofNat_lt, Int.ofNat_le, Int.natCast_inj] at hlt
    have hst := sched_take bs z t (by omega)
    obtain ⟨g, o, e, cs, rfl, hc, -, -, hi, -⟩ := (hb.mono e1).bytes (by omega)
    obtain ⟨s4, H4, ha, o4, k4⟩ := OS.app1 (P := Try.prog) (t := 87) (tx := 87) (bytes := 4) (c := U32 (nextW bs (schedA bs z t) t)) (by simp only [ty]) (by simp only [ty]) o1 rfl (by rw [List.length_map, htl]; omega) (by decide) e1.length
    have o4' : OS H.length H4 s4 (((schedA bs z (t + 1)).take (t + 1)).map U32) := by rw [hst, List.map_append]; exact o4
    have x4 := k4.ext (Nat.le_refl _) e1
    iterate 2 ((repeat first | refine Qo ?_ | refine Qn ?_); (first | refine awp_skip ?_ | refine Qp (by kernel_rfl) ?_); simp -implicitDefEqProofs (disch := (try simp only [sl]); try omega) only [sm,QJ,Qj,Qi,Qq,QC,bd,look,aput,QB,Qf,QI,abin,anil,ty,↓reduceIte,Nat.reduceEqDiff,Nat.reduceAdd,Nat.reduceSub,Nat.reduceMul,Int.reduceLT,Int.reduceLE,Int.reduceNeg,Int.reduceToNat,reduceCtorEq,Nat.reduceBEq,Nat.reduceBNe,Qk,Qe,Value.cells,am,mm,keep])
    repeat first | refine Qo ?_ | refine Qn ?_
    refine awp_if _ rfl (by simp only [aeval_tmp, look, ↓reduceIte, Nat.reduceEqDiff]; exact rfl) ?_ ?_
    · intro h16
      try simp only [ge_iff_le, gt_iff_lt, decide_eq_true_eq, decide_eq_false_iff_not, Nat.not_lt, Int.not_lt, Nat.not_le, Int.not_le, Bool.and_eq_true, Bool.or_eq_true, Bool.or_eq_false_iff, bne_iff_ne, ne_eq, beq_iff_eq, bne_eq_false_iff_eq, beq_eq_false_iff_ne, Bool.not_eq_true, Bool.not_eq_false, Bool.not_eq_eq_eq_not, Bool.not_true, Bool.not_false, Nat.not_le, Int.ofNat_lt, Int.ofNat_le, Int.natCast_inj] at h16
      have hn : nextW bs (schedA bs z t) t = (bs.getD (4 * t) 0).toUInt32 * 16777216 + (bs.getD (4 * t + 1) 0).toUInt32 * 65536 + (bs.getD (4 * t + 2) 0).toUInt32 * 256 + (bs.getD (4 * t + 3) 0).toUInt32 := by
        rw [nextW, if_pos h16, be32L_at bs t (by omega), word_be]
      rw [hn] at ha
      iterate 3 ((repeat first | refine Qo ?_ | refine Qn ?_); (first | refine awp_region_drawC (id := 6) [(0, []), (1, []), (2, []), (3, []), (4, []), (5, []), (6, []), (7, []), (8, []), (9, []), (10, []), (11, []), (12, []), (13, []), (14, []), (15, []), (16, []), (17, []), (18, []), (19, []), (20, []), (21, []), (22, []), (23, []), (24, []), (25, []), (26, []), (27, []), (28, []), (29, []), (30, []), (31, []), (32, []), (33, []), (34, []), (35, []), (36, [])] mixed (by kernel_rfl) ?_ | refine awp_exit ?_ | refine Qp (by kernel_rfl) ?_); simp -implicitDefEqProofs (disch := (try simp only [sl]); try omega) only [sm,QJ,aSel,Qu,Qv,Qw,Qx,Qy,Qj,Qi,Qq,QC,Qz,bd,QF,look,aput,Qm,QH,QB,Qf,Qg,QI,abin,anil,Qb,QA,ty,↓reduceIte,Nat.reduceEqDiff,Nat.reduceAdd,Nat.reduceSub,Nat.reduceMul,Int.reduceLT,Int.reduceLE,Int.reduceNeg,Int.reduceToNat,reduceCtorEq,Nat.reduceBEq,Nat.reduceBNe,Qk,Qe,Value.cells,am,mm,keep, hc, hi, hbl, ha])
      refine ⟨(t + 1, H4, s4), ⟨by simp only []; omega, x4, o4'⟩, (by repeat first | exact Forgets.nil | refine Forgets.cons (by first | (simp only [look, ↓reduceIte, Nat.reduceEqDiff]; done) | (simp only [look, ↓reduceIte, Nat.reduceEqDiff]; rfl) | simp [look]) ?_), ?_⟩
      first | omega | exact ⟨rfl, by omega⟩ | exact ⟨rfl, by simp only []; omega⟩ | (simp only []; omega)
    intro h16
    try simp only [ge_iff_le, gt_iff_lt, decide_eq_true_eq, decide_eq_false_iff_not, Nat.not_lt, Int.not_lt, Nat.not_le, Int.not_le, Bool.and_eq_true, Bool.or_eq_true, Bool.or_eq_false_iff, bne_iff_ne, ne_eq, beq_iff_eq, bne_eq_false_iff_eq, beq_eq_false_iff_ne, Bool.not_eq_true, Bool.not_eq_false, Bool.not_eq_eq_eq_not, Bool.not_true, Bool.not_false, Nat.not_le, Int.ofNat_lt, Int.ofNat_le, Int.natCast_inj] at h16
    obtain ⟨g1, rfl, hg1, -, -⟩ := o1.at (by rw [List.length_map, htl]; omega)
    rw [List.length_map, htl]
    have hc1 := AH.cells_own hg1
    have hn : nextW bs (schedA bs z t) t = (turnW ((schedA bs z t).getD (t - 2) 0) 17 ^^^ turnW ((schedA bs z t).getD (t - 2) 0) 19 ^^^ (schedA bs z t).getD (t - 2) 0 / 1024) + (schedA bs z t).getD (t - 7) 0 + (turnW ((schedA bs z t).getD (t - 15) 0) 7 ^^^ turnW ((schedA bs z t).getD (t - 15) 0) 18 ^^^ (schedA bs z t).getD (t - 15) 0 / 8) + (schedA bs z t).getD (t - 16) 0 := by
      rw [nextW, if_neg (by omega), sg0, sg1, div8, div1024]
    rw [hn, List.length_map, htl] at ha
    iterate 3 ((repeat first | refine Qo ?_ | refine Qn ?_); (first | refine awp_skip ?_ | refine awp_region_drawC (id := 7) [(0, []), (1, []), (2, []), (3, []), (4, []), (5, []), (6, []), (7, []), (8, []), (9, []), (10, []), (11, [])] mixed (by kernel_rfl) ?_ | refine Qp (by kernel_rfl) ?_); simp -implicitDefEqProofs (disch := (try simp only [sl]); try omega) only [sm,QJ,aSel,Qu,Qv,Qw,Qx,Qy,Qj,Qi,Qq,QC,Qz,bd,QF,look,aput,Qm,QB,Qf,QI,abin,anil,Qb,QA,ty,↓reduceIte,Nat.reduceEqDiff,Nat.reduceAdd,Nat.reduceSub,Nat.reduceMul,Int.reduceLT,Int.reduceLE,Int.reduceNeg,Int.reduceToNat,reduceCtorEq,Nat.reduceBEq,Nat.reduceBNe,Qk,Qe,Value.cells,am,mm,keep, hc1, htl, take_getD])
    refine ACalls.mono (srefturn_calls ((schedA bs z t).getD (t - 15) 0) 7 _ (by omega) (by omega)) ?_
    rintro _ _ ⟨rfl, hHH⟩
    rw [hHH]
    clear hHH
    simp -implicitDefEqProofs (disch := (try simp only [sl]); try omega) only [sm,QJ,Qj,Qi,Qq,QC,bd,look,aput,Qm,QB,Qf,QI,abin,anil,ty,↓reduceIte,Nat.reduceEqDiff,Nat.reduceAdd,Nat.reduceSub,Nat.reduceMul,Int.reduceLT,Int.reduceLE,Int.reduceNeg,Int.reduceToNat,reduceCtorEq,Nat.reduceBEq,Nat.reduceBNe,Qk,Qe,Value.cells,am,mm,keep, hc1, htl, take_getD]
    refine ACalls.mono (srefturn_calls ((schedA bs z t).getD (t - 15) 0) 18 _ (by omega) (by omega)) ?_
    rintro _ _ ⟨rfl, hHH⟩
    rw [hHH]
    clear hHH
    simp -implicitDefEqProofs (disch := (try simp only [sl]); try omega) only [sm,QJ,Qj,Qi,Qq,QC,bd,look,aput,Qm,QB,Qf,QI,abin,anil,ty,↓reduceIte,Nat.reduceEqDiff,Nat.reduceAdd,Nat.reduceSub,Nat.reduceMul,Int.reduceLT,Int.reduceLE,Int.reduceNeg,Int.reduceToNat,reduceCtorEq,Nat.reduceBEq,Nat.reduceBNe,Qk,Qe,Value.cells,am,mm,keep, hc1, htl, take_getD]
    iterate 1 ((repeat first | refine Qo ?_ | refine Qn ?_); (first | refine Qp (by kernel_rfl) ?_); simp -implicitDefEqProofs (disch := (try simp only [sl]); try omega) only [sm,QJ,Qj,Qi,Qq,QC,bd,look,aput,Qm,QB,Qf,QI,abin,anil,ty,↓reduceIte,Nat.reduceEqDiff,Nat.reduceAdd,Nat.reduceSub,Nat.reduceMul,Int.reduceLT,Int.reduceLE,Int.reduceNeg,Int.reduceToNat,reduceCtorEq,Nat.reduceBEq,Nat.reduceBNe,Qk,Qe,Value.cells,am,mm,keep, hc1, htl, take_getD])
    refine ACalls.mono (srefturn_calls ((schedA bs z t).getD (t - 2) 0) 17 _ (by omega) (by omega)) ?_
    rintro _ _ ⟨rfl, hHH⟩
    rw [hHH]
    clear hHH
    simp -implicitDefEqProofs (disch := (try simp only [sl]); try omega) only [sm,QJ,Qj,Qi,Qq,QC,bd,look,aput,Qm,QB,Qf,QI,abin,anil,ty,↓reduceIte,Nat.reduceEqDiff,Nat.reduceAdd,Nat.reduceSub,Nat.reduceMul,Int.reduceLT,Int.reduceLE,Int.reduceNeg,Int.reduceToNat,reduceCtorEq,Nat.reduceBEq,Nat.reduceBNe,Qk,Qe,Value.cells,am,mm,keep, hc1, htl, take_getD]
    refine ACalls.mono (srefturn_calls ((schedA bs z t).getD (t - 2) 0) 19 _ (by omega) (by omega)) ?_
    rintro _ _ ⟨rfl, hHH⟩
    rw [hHH]
    clear hHH
    simp -implicitDefEqProofs (disch := (try simp only [sl]); try omega) only [sm,QJ,Qj,Qi,Qq,QC,bd,look,aput,Qm,QB,Qf,QI,abin,anil,ty,↓reduceIte,Nat.reduceEqDiff,Nat.reduceAdd,Nat.reduceSub,Nat.reduceMul,Int.reduceLT,Int.reduceLE,Int.reduceNeg,Int.reduceToNat,reduceCtorEq,Nat.reduceBEq,Nat.reduceBNe,Qk,Qe,Value.cells,am,mm,keep, hc1, htl, take_getD]
    iterate 2 ((repeat first | refine Qo ?_ | refine Qn ?_); (first | refine awp_region_drawC (id := 10) [(0, []), (1, []), (2, []), (3, []), (4, []), (5, []), (6, []), (7, []), (8, []), (9, []), (10, []), (11, []), (12, []), (13, []), (14, []), (15, []), (16, []), (17, []), (18, [])] mixed (by kernel_rfl) ?_ | refine Qp (by kernel_rfl) ?_); simp -implicitDefEqProofs (disch := (try simp only [sl]); try omega) only [sm,QJ,aSel,Qu,Qv,Qw,Qx,Qy,Qj,Qi,Qq,QC,Qz,bd,QF,look,aput,Qm,QB,Qf,QI,abin,anil,Qb,QA,ty,↓reduceIte,Nat.reduceEqDiff,Nat.reduceAdd,Nat.reduceSub,Nat.reduceMul,Int.reduceLT,Int.reduceLE,Int.reduceNeg,Int.reduceToNat,reduceCtorEq,Nat.reduceBEq,Nat.reduceBNe,Qk,Qe,Value.cells,am,mm,keep, hc1, htl, take_getD, ha])
    refine ⟨(t + 1, H4, s4), ⟨by simp only []; omega, x4, o4'⟩, (by repeat first | exact Forgets.nil | refine Forgets.cons (by first | (simp only [look, ↓reduceIte, Nat.reduceEqDiff]; done) | (simp only [look, ↓reduceIte, Nat.reduceEqDiff]; rfl) | simp [look]) ?_), ?_⟩
    first | omega | exact ⟨rfl, by omega⟩ | exact ⟨rfl, by simp only []; omega⟩ | (simp only []; omega)
  intro hge
  try simp only [ge_iff_le, gt_iff_lt, decide_eq_true_eq, decide_eq_false_iff_not, Nat.not_lt, Int.not_lt, Nat.not_le, Int.not_le, Bool.and_eq_true, Bool.or_eq_true, Bool.or_eq_false_iff, bne_iff_ne, ne_eq, beq_iff_eq, bne_eq_false_iff_eq, beq_eq_false_iff_ne, Bool.not_eq_true, Bool.not_eq_false, Bool.not_eq_eq_eq_not, Bool.not_true, Bool.not_false, Nat.not_le, Int.ofNat_lt, Int.ofNat_le, Int.natCast_inj] at hge
  obtain rfl : t = 64 := by omega
  rw [List.take_of_length_le (by omega)] at o1
  clear htl
  generalize schedA bs z 64 = ws at *
  have hs1 := hs.mono e1
  obtain ⟨s4, H4, ha, o4, k4⟩ := OS.app (P := Try.prog) (t := 87) (tx := 87) (bytes := 4) (by simp only [ty]) (by simp only [ty]) (OS.nil H1.length H1) hs1 (all32 _) (by rw [List.length_nil, List.length_map]; omega) (by decide) (Nat.le_refl _)
  rw [List.nil_append] at o4
  iterate 3 ((repeat first | refine Qo ?_ | refine Qn ?_); (first | refine awp_exit ?_ | refine Qp (by kernel_rfl) ?_); simp -implicitDefEqProofs (disch := (try simp only [sl]); try omega) only [sm,QJ,Qj,Qi,Qq,QC,bd,look,aput,Qm,QB,Qf,ty,↓reduceIte,Nat.reduceEqDiff,Nat.reduceAdd,Nat.reduceSub,Nat.reduceMul,Int.reduceLT,Int.reduceLE,Int.reduceNeg,Int.reduceToNat,reduceCtorEq,Nat.reduceBEq,Nat.reduceBNe,Qk,Qe,Value.cells,am,mm,keep, ha])
  have e4 := k4.ext e1.length e1
  have o1' := o1.sl.mono (k4.ext (Nat.le_refl _) (Ext.refl _))
  clear ha k4 o1 hs1
  have o4 := o4.sl
  repeat first | refine Qo ?_ | refine Qn ?_
  refine awp_forK [0, 1, 7] (fun i : Nat × AH × Value => [(14, I64 i.1), (13, i.2.2)]) (fun i : Nat × AH × Value => i.2.1) (fun i : Nat × AH × Value => i.1 ≤ 64 ∧ Ext H4 i.2.1 ∧ SL i.2.1 i.2.2 ((rndsL ks ws s i.1).map U32)) (fun i : Nat × AH × Value => 64 - i.1) ((0, H4, s4)) (⟨by omega, Ext.refl _, o4⟩) (by repeat first | exact Forgets.nil | refine Forgets.cons (by first | (simp only [look, ↓reduceIte, Nat.reduceEqDiff]; done) | (simp only [look, ↓reduceIte, Nat.reduceEqDiff]; rfl) | simp [look]) ?_) rfl ?_
  rintro ⟨t, H5, s5⟩ ⟨ht, e5, o5⟩
  simp only [] at ht e5 o5 ⊢
  have hyl := rndsL_length ks ws s hsl t
  try simp -implicitDefEqProofs (disch := (try simp only [sl]); try omega) only [sm,QJ,Qj,Qi,Qq,QC,bd,look,aput,QB,Qf,ty,↓reduceIte,Nat.reduceEqDiff,Nat.reduceAdd,Nat.reduceSub,Nat.reduceMul,Int.reduceLT,Int.reduceLE,Int.reduceNeg,Int.reduceToNat,reduceCtorEq,Nat.reduceBEq,Nat.reduceBNe,Qk,Qe,Value.cells,am,mm,keep]
  iterate 1 ((repeat first | refine Qo ?_ | refine Qn ?_); (first | refine Qp (by kernel_rfl) ?_); simp -implicitDefEqProofs (disch := (try simp only [sl]); try omega) only [sm,QJ,Qj,Qi,Qq,QC,bd,look,aput,QB,Qf,QI,abin,anil,ty,↓reduceIte,Nat.reduceEqDiff,Nat.reduceAdd,Nat.reduceSub,Nat.reduceMul,Int.reduceLT,Int.reduceLE,Int.reduceNeg,Int.reduceToNat,reduceCtorEq,Nat.reduceBEq,Nat.reduceBNe,Qk,Qe,Value.cells,am,mm,keep])
  repeat first | refine Qo ?_ | refine Qn ?_
  refine awp_if _ rfl (by simp only [aeval_tmp, look, ↓reduceIte, Nat.reduceEqDiff]; exact rfl) ?_ ?_
  · intro hlt
    try simp only [ge_iff_le, gt_iff_lt, decide_eq_true_eq, decide_eq_false_iff_not, Nat.not_lt, Int.not_lt, Nat.not_le, Int.not_le, Bool.and_eq_true, Bool.or_eq_true, Bool.or_eq_false_iff, bne_iff_ne, ne_eq, beq_iff_eq, bne_eq_false_iff_eq, beq_eq_false_iff_ne, Bool.not_eq_true, Bool.not_eq_false, Bool.not_eq_eq_eq_not, Bool.not_true, Bool.not_false, Nat.not_le, Int.ofNat_lt, Int.ofNat_le, Int.natCast_inj] at hlt
    have hnx : rndsL ks ws s (t + 1) = rndL (ks.getD t 0) (ws.getD t 0) (rndsL ks ws s t) := rfl
    obtain ⟨x0, x1, x2, x3, x4, x5, x6, x7, hy⟩ := eight _ hyl
    rw [hy] at hnx o5
    obtain ⟨g1, o1, d1, cs1, rfl, hc1, -, -, hi1, -⟩ := o5.at (by simp)
    obtain ⟨g2, o2, d2, cs2, rfl, hc2, -, -, hi2, -⟩ := (hk.mono (e4.trans e5)).at (by rw [List.length_map]; omega)
    obtain ⟨g3, o3, d3, cs3, rfl, hc3, -, -, hi3, -⟩ := (o1'.mono e5).at (by rw [List.length_map]; omega)
    rw [List.length_map] at hi2 hi3
    have j2 := hi2 t (by omega)
    have j3 := hi3 t (by omega)
    rw [mg32 _ _ (by omega)] at j2 j3
    have i0 := hi1 0 (by simp)
    have i1 := hi1 1 (by simp)
    have i2 := hi1 2 (by simp)
    have i3 := hi1 3 (by simp)
    have i4 := hi1 4 (by simp)
    have i5 := hi1 5 (by simp)
    have i6 := hi1 6 (by simp)
    have i7 := hi1 7 (by simp)
    simp only [List.map_cons, List.map_nil, List.getElem?_cons_zero, List.getElem?_cons_succ, Nat.add_zero] at i0 i1 i2 i3 i4 i5 i6 i7
    clear hi1 hi2 hi3
    iterate 3 ((repeat first | refine Qo ?_ | refine Qn ?_); (first | refine awp_skip ?_ | refine awp_region_drawC (id := 15) [(0, []), (1, []), (2, []), (3, []), (4, []), (5, []), (6, []), (7, [])] mixed (by kernel_rfl) ?_ | refine awp_region_drawC (id := 16) [(0, []), (1, []), (2, []), (3, []), (5, []), (8, []), (12, []), (13, []), (14, []), (15, []), (16, []), (17, []), (18, []), (19, []), (20, []), (21, []), (22, []), (23, []), (25, []), (26, []), (27, []), (28, []), (30, []), (31, []), (32, []), (33, []), (4, [2, 15, 21, 28, 33]), (6, [2, 15, 21, 28, 33]), (7, []), (9, [2, 15, 21, 28, 33]), (10, []), (11, []), (24, []), (29, []), (34, []), (35, [])] mixed (by kernel_rfl) ?_); simp -implicitDefEqProofs (disch := (try simp only [sl]); try omega) only [sm,aSel,Qu,Qv,Qw,Qx,Qy,Qj,Qi,Qq,QC,Qz,bd,QF,look,aput,Qm,QB,Qf,QI,abin,anil,Qb,QA,ty,↓reduceIte,Nat.reduceEqDiff,Nat.reduceAdd,Nat.reduceSub,Nat.reduceMul,Int.reduceLT,Int.reduceLE,Int.reduceNeg,Int.reduceToNat,reduceCtorEq,Nat.reduceBEq,Nat.reduceBNe,Qk,Qe,Value.cells,am,mm,keep, hc1, hc2, hc3, j2, j3, i0, i1, i2, i3, i4, i5, i6, i7, hkl, hwl, List.length_map, ones_sub])
    refine ACalls.mono (srefturn_calls x4 6 _ (by omega) (by omega)) ?_
    rintro _ _ ⟨rfl, hHH⟩
    rw [hHH]
    clear hHH
    simp -implicitDefEqProofs (disch := (try simp only [sl]); try omega) only [sm,aSel,Qu,Qv,Qw,Qx,Qy,Qj,Qi,Qq,QC,Qz,bd,QF,look,aput,Qm,QB,Qf,QI,abin,anil,Qb,QA,ty,↓reduceIte,Nat.reduceEqDiff,Nat.reduceAdd,Nat.reduceSub,Nat.reduceMul,Int.reduceLT,Int.reduceLE,Int.reduceNeg,Int.reduceToNat,reduceCtorEq,Nat.reduceBEq,Nat.reduceBNe,Qk,Qe,Value.cells,am,mm,keep, hc1, hc2, hc3, j2, j3, i0, i1, i2, i3, i4, i5, i6, i7, hkl, hwl, List.length_map, ones_sub]
    refine ACalls.mono (srefturn_calls x4 11 _ (by omega) (by omega)) ?_
    rintro _ _ ⟨rfl, hHH⟩
    rw [hHH]
    clear hHH
    simp -implicitDefEqProofs (disch := (try simp only [sl]); try omega) only [sm,aSel,Qu,Qv,Qw,Qx,Qy,Qj,Qi,Qq,QC,Qz,bd,QF,look,aput,Qm,QB,Qf,QI,abin,anil,Qb,QA,ty,↓reduceIte,Nat.reduceEqDiff,Nat.reduceAdd,Nat.reduceSub,Nat.reduceMul,Int.reduceLT,Int.reduceLE,Int.reduceNeg,Int.reduceToNat,reduceCtorEq,Nat.reduceBEq,Nat.reduceBNe,Qk,Qe,Value.cells,am,mm,keep, hc1, hc2, hc3, j2, j3, i0, i1, i2, i3, i4, i5, i6, i7, hkl, hwl, List.length_map, ones_sub]
    refine ACalls.mono (srefturn_calls x4 25 _ (by omega) (by omega)) ?_
    rintro _ _ ⟨rfl, hHH⟩
    rw [hHH]
    clear hHH
    simp -implicitDefEqProofs (disch := (try simp only [sl]); try omega) only [sm,aSel,Qu,Qv,Qw,Qx,Qy,Qj,Qi,Qq,QC,Qz,bd,QF,look,aput,Qm,QB,Qf,QI,abin,anil,Qb,QA,ty,↓reduceIte,Nat.reduceEqDiff,Nat.reduceAdd,Nat.reduceSub,Nat.reduceMul,Int.reduceLT,Int.reduceLE,Int.reduceNeg,Int.reduceToNat,reduceCtorEq,Nat.reduceBEq,Nat.reduceBNe,Qk,Qe,Value.cells,am,mm,keep, hc1, hc2, hc3, j2, j3, i0, i1, i2, i3, i4, i5, i6, i7, hkl, hwl, List.length_map, ones_sub]
    iterate 1 ((repeat first | refine Qo ?_ | refine Qn ?_); (first | refine awp_region_drawC (id := 17) [(0, []), (2, []), (5, []), (8, []), (9, []), (10, []), (11, []), (12, []), (13, []), (14, []), (15, []), (16, []), (17, []), (18, []), (19, []), (20, []), (21, []), (22, []), (23, []), (24, []), (25, []), (26, []), (1, [11, 16, 21, 24]), (3, [11, 16, 21, 24]), (4, []), (6, [11, 16, 21, 24]), (7, []), (27, []), (28, [])] mixed (by kernel_rfl) ?_); simp -implicitDefEqProofs (disch := (try simp only [sl]); try omega) only [sm,aSel,Qu,Qv,Qw,Qx,Qy,Qj,Qi,Qq,QC,Qz,bd,QF,look,aput,Qm,QB,Qf,QI,abin,anil,Qb,QA,ty,↓reduceIte,Nat.reduceEqDiff,Nat.reduceAdd,Nat.reduceSub,Nat.reduceMul,Int.reduceLT,Int.reduceLE,Int.reduceNeg,Int.reduceToNat,reduceCtorEq,Nat.reduceBEq,Nat.reduceBNe,Qk,Qe,Value.cells,am,mm,keep, hc1, hc2, hc3, j2, j3, i0, i1, i2, i3, i4, i5, i6, i7, hkl, hwl, List.length_map, ones_sub])
    refine ACalls.mono (srefturn_calls x0 2 _ (by omega) (by omega)) ?_
    rintro _ _ ⟨rfl, hHH⟩
    rw [hHH]
    clear hHH
    simp -implicitDefEqProofs (disch := (try simp only [sl]); try omega) only [sm,aSel,Qu,Qv,Qw,Qx,Qy,Qj,Qi,Qq,QC,Qz,bd,QF,look,aput,Qm,QB,Qf,QI,abin,anil,Qb,QA,ty,↓reduceIte,Nat.reduceEqDiff,Nat.reduceAdd,Nat.reduceSub,Nat.reduceMul,Int.reduceLT,Int.reduceLE,Int.reduceNeg,Int.reduceToNat,reduceCtorEq,Nat.reduceBEq,Nat.reduceBNe,Qk,Qe,Value.cells,am,mm,keep, hc1, hc2, hc3, j2, j3, i0, i1, i2, i3, i4, i5, i6, i7, hkl, hwl, List.length_map, ones_sub]
    refine ACalls.mono (srefturn_calls x0 13 _ (by omega) (by omega)) ?_
    rintro _ _ ⟨rfl, hHH⟩
    rw [hHH]
    clear hHH
    simp -implicitDefEqProofs (disch := (try simp only [sl]); try omega) only [sm,aSel,Qu,Qv,Qw,Qx,Qy,Qj,Qi,Qq,QC,Qz,bd,QF,look,aput,Qm,QB,Qf,QI,abin,anil,Qb,QA,ty,↓reduceIte,Nat.reduceEqDiff,Nat.reduceAdd,Nat.reduceSub,Nat.reduceMul,Int.reduceLT,Int.reduceLE,Int.reduceNeg,Int.reduceToNat,reduceCtorEq,Nat.reduceBEq,Nat.reduceBNe,Qk,Qe,Value.cells,am,mm,keep, hc1, hc2, hc3, j2, j3, i0, i1, i2, i3, i4, i5, i6, i7, hkl, hwl, List.length_map, ones_sub]
    refine ACalls.mono (srefturn_calls x0 22 _ (by omega) (by omega)) ?_
    rintro _ _ ⟨rfl, hHH⟩
    rw [hHH]
    clear hHH
    simp -implicitDefEqProofs (disch := (try simp only [sl]); try omega) only [sm,aSel,Qu,Qv,Qw,Qx,Qy,Qj,Qi,Qq,QC,Qz,bd,QF,look,aput,Qm,QB,Qf,QI,abin,anil,Qb,QA,ty,↓reduceIte,Nat.reduceEqDiff,Nat.reduceAdd,Nat.reduceSub,Nat.reduceMul,Int.reduceLT,Int.reduceLE,Int.reduceNeg,Int.reduceToNat,reduceCtorEq,Nat.reduceBEq,Nat.reduceBNe,Qk,Qe,Value.cells,am,mm,keep, hc1, hc2, hc3, j2, j3, i0, i1, i2, i3, i4, i5, i6, i7, hkl, hwl, List.length_map, ones_sub]
    iterate 2 ((repeat first | refine Qo ?_ | refine Qn ?_); (first | refine awp_region_drawC (id := 18) [(0, []), (1, []), (2, []), (3, []), (4, []), (5, []), (6, []), (7, []), (8, []), (9, []), (10, []), (11, []), (12, []), (13, []), (14, []), (15, []), (16, []), (17, []), (18, []), (19, []), (20, []), (21, []), (22, []), (23, []), (24, []), (25, []), (26, []), (27, [])] mixed (by kernel_rfl) ?_ | refine Qp (by kernel_rfl) ?_); simp -implicitDefEqProofs (disch := (try simp only [sl]); try omega) only [sm,QJ,aSel,Qu,Qv,Qw,Qx,Qy,Qj,Qi,Qq,QC,Qz,bd,QF,look,aput,QB,Qf,QI,abin,anil,Qb,QA,ty,↓reduceIte,Nat.reduceEqDiff,Nat.reduceAdd,Nat.reduceSub,Nat.reduceMul,Int.reduceLT,Int.reduceLE,Int.reduceNeg,Int.reduceToNat,reduceCtorEq,Nat.reduceBEq,Nat.reduceBNe,Qk,Qe,Value.cells,am,mm,keep, hc1, hc2, hc3, j2, j3, i0, i1, i2, i3, i4, i5, i6, i7, hkl, hwl, List.length_map, ones_sub])
    refine ⟨(t + 1, H5 ++ [.own ((rndL (ks.getD t 0) (ws.getD t 0) [x0, x1, x2, x3, x4, x5, x6, x7]).map U32)], .slice (some ⟨H5.length, 0, none⟩) 8 1), ⟨by simp only []; omega, e5.pushed _, by simp only []; rw [hnx]; exact (OS.new (b := 0) (Nat.zero_le _) rfl).sl⟩, (by repeat first | exact Forgets.nil | refine Forgets.cons (by first | (simp only [look, ↓reduceIte, Nat.reduceEqDiff]; done) | (simp only [look, ↓reduceIte, Nat.reduceEqDiff]; rfl) | simp [look]) ?_), rfl, by simp only []; omega⟩
  intro hge
  try simp only [ge_iff_le, gt_iff_lt, decide_eq_true_eq, decide_eq_false_iff_not, Nat.not_lt, Int.not_lt, Nat.not_le, Int.not_le, Bool.and_eq_true, Bool.or_eq_true, Bool.or_eq_false_iff, bne_iff_ne, ne_eq, beq_iff_eq, bne_eq_false_iff_eq, beq_eq_false_iff_ne, Bool.not_eq_true, Bool.not_eq_false, Bool.not_eq_eq_eq_not, Bool.not_true, Bool.not_false, Nat.not_le, Int.ofNat_lt, Int.ofNat_le, Int.natCast_inj] at hge
  obtain rfl : t = 64 := by omega
  iterate 3 ((repeat first | refine Qo ?_ | refine Qn ?_); (first | refine awp_exit ?_ | refine Qp (by kernel_rfl) ?_); simp -implicitDefEqProofs (disch := (try simp only [sl]); try omega) only [sm,QJ,Qj,Qi,Qq,QC,bd,look,aput,QB,Qf,ty,↓reduceIte,Nat.reduceEqDiff,Nat.reduceAdd,Nat.reduceSub,Nat.reduceMul,Int.reduceLT,Int.reduceLE,Int.reduceNeg,Int.reduceToNat,reduceCtorEq,Nat.reduceBEq,Nat.reduceBNe,Qk,Qe,Value.cells,am,mm,keep])
  generalize rndsL ks ws s 64 = xs at *
  repeat first | refine Qo ?_ | refine Qn ?_
  refine awp_forK [1, 13] (fun i : Nat × AH × Value => [(20, I64 i.1), (19, i.2.2)]) (fun i : Nat × AH × Value => i.2.1) (fun i : Nat × AH × Value => i.1 ≤ 8 ∧ Ext H5 i.2.1 ∧ OS H5.length i.2.1 i.2.2 (((List.range i.1).map fun i => s.getD i 0 + xs.getD i 0).map U32)) (fun i : Nat × AH × Value => 8 - i.1) ((0, H5, .slice none 0 0)) (⟨by omega, Ext.refl _, OS.nil _ _⟩) (by repeat first | exact Forgets.nil | refine Forgets.cons (by first | (simp only [look, ↓reduceIte, Nat.reduceEqDiff]; done) | (simp only [look, ↓reduceIte, Nat.reduceEqDiff]; rfl) | simp [look]) ?_) rfl ?_
  rintro ⟨i, H6, s6⟩ ⟨hi, e6, o6⟩
  simp only [] at hi e6 o6 ⊢
  have e46 := e4.trans (e5.trans e6)
  try simp -implicitDefEqProofs (disch := (try simp only [sl]); try omega) only [sm,QJ,Qj,Qi,Qq,QC,bd,look,aput,QB,Qf,ty,↓reduceIte,Nat.reduceEqDiff,Nat.reduceAdd,Nat.reduceSub,Nat.reduceMul,Int.reduceLT,Int.reduceLE,Int.reduceNeg,Int.reduceToNat,reduceCtorEq,Nat.reduceBEq,Nat.reduceBNe,Qk,Qe,Value.cells,am,mm,keep]
  iterate 1 ((repeat first | refine Qo ?_ | refine Qn ?_); (first | refine Qp (by kernel_rfl) ?_); simp -implicitDefEqProofs (disch := (try simp only [sl]); try omega) only [sm,QJ,Qj,Qi,Qq,QC,bd,look,aput,QB,Qf,QI,abin,anil,ty,↓reduceIte,Nat.reduceEqDiff,Nat.reduceAdd,Nat.reduceSub,Nat.reduceMul,Int.reduceLT,Int.reduceLE,Int.reduceNeg,Int.reduceToNat,reduceCtorEq,Nat.reduceBEq,Nat.reduceBNe,Qk,Qe,Value.cells,am,mm,keep])
  repeat first | refine Qo ?_ | refine Qn ?_
  refine awp_if _ rfl (by simp only [aeval_tmp, look, ↓reduceIte, Nat.reduceEqDiff]; exact rfl) ?_ ?_
  · intro hlt
    try simp only [ge_iff_le, gt_iff_lt, decide_eq_true_eq, decide_eq_false_iff_not, Nat.not_lt, Int.not_lt, Nat.not_le, Int.not_le, Bool.and_eq_true, Bool.or_eq_true, Bool.or_eq_false_iff, bne_iff_ne, ne_eq, beq_iff_eq, bne_eq_false_iff_eq, beq_eq_false_iff_ne, Bool.not_eq_true, Bool.not_eq_false, Bool.not_eq_eq_eq_not, Bool.not_true, Bool.not_false, Nat.not_le, Int.ofNat_lt, Int.ofNat_le, Int.natCast_inj] at hlt
    obtain ⟨g1, o1, d1, cs1, rfl, hc1, -, -, hi1, -⟩ := (o5.mono e6).at (by rw [List.length_map]; omega)
    obtain ⟨g2, o2, d2, cs2, rfl, hc2, -, -, hi2, -⟩ := (hs.mono e46).at (by rw [List.length_map]; omega)
    rw [List.length_map] at hi1 hi2
    have j1 := hi1 i (by omega)
    have j2 := hi2 i (by omega)
    rw [mg32 _ _ (by omega)] at j1 j2
    obtain ⟨s7, H7, ha, o7, k7⟩ := OS.app1 (P := Try.prog) (t := 87) (tx := 87) (bytes := 4) (c := U32 (s.getD i 0 + xs.getD i 0)) (by simp only [ty]) (by simp only [ty]) o6 rfl (by simp; omega) (by decide) e6.length
    rw [UInt32.add_comm] at ha
    iterate 3 ((repeat first | refine Qo ?_ | refine Qn ?_); (first | refine awp_skip ?_ | refine awp_region_drawC (id := 23) [(0, []), (1, []), (2, []), (3, []), (4, []), (5, []), (6, []), (7, []), (8, []), (9, []), (10, []), (11, []), (12, [])] mixed (by kernel_rfl) ?_ | refine Qp (by kernel_rfl) ?_); simp -implicitDefEqProofs (disch := (try simp only [sl]); try omega) only [sm,QJ,aSel,Qu,Qv,Qw,Qx,Qy,Qj,Qi,Qq,QC,Qz,bd,QF,look,aput,Qm,QB,Qf,QI,abin,anil,Qb,QA,ty,↓reduceIte,Nat.reduceEqDiff,Nat.reduceAdd,Nat.reduceSub,Nat.reduceMul,Int.reduceLT,Int.reduceLE,Int.reduceNeg,Int.reduceToNat,reduceCtorEq,Nat.reduceBEq,Nat.reduceBNe,Qk,Qe,Value.cells,am,mm,keep, hc1, hc2, j1, j2, ha, hsl, hyl, List.length_map])
    refine ⟨(i + 1, H7, s7), ⟨by simp only []; omega, k7.ext (Nat.le_refl _) e6, by simp only []; rw [List.range_succ, List.map_append, List.map_append]; exact o7⟩, (by repeat first | exact Forgets.nil | refine Forgets.cons (by first | (simp only [look, ↓reduceIte, Nat.reduceEqDiff]; done) | (simp only [look, ↓reduceIte, Nat.reduceEqDiff]; rfl) | simp [look]) ?_), ?_⟩
    first | omega | exact ⟨rfl, by omega⟩ | exact ⟨rfl, by simp only []; omega⟩ | (simp only []; omega)
  intro hge
  try simp only [ge_iff_le, gt_iff_lt, decide_eq_true_eq, decide_eq_false_iff_not, Nat.not_lt, Int.not_lt, Nat.not_le, Int.not_le, Bool.and_eq_true, Bool.or_eq_true, Bool.or_eq_false_iff, bne_iff_ne, ne_eq, beq_iff_eq, bne_eq_false_iff_eq, beq_eq_false_iff_ne, Bool.not_eq_true, Bool.not_eq_false, Bool.not_eq_eq_eq_not, Bool.not_true, Bool.not_false, Nat.not_le, Int.ofNat_lt, Int.ofNat_le, Int.natCast_inj] at hge
  obtain rfl : i = 8 := by omega
  iterate 2 ((repeat first | refine Qo ?_ | refine Qn ?_); (first | refine awp_exit ?_ | refine Qp (by kernel_rfl) ?_); simp -implicitDefEqProofs (disch := (try simp only [sl]); try omega) only [sm,QJ,Qj,Qi,Qq,QC,bd,look,aput,QB,Qf,ty,↓reduceIte,Nat.reduceEqDiff,Nat.reduceAdd,Nat.reduceSub,Nat.reduceMul,Int.reduceLT,Int.reduceLE,Int.reduceNeg,Int.reduceToNat,reduceCtorEq,Nat.reduceBEq,Nat.reduceBNe,Qk,Qe,Value.cells,am,mm,keep])
  first | refine awp_ret ?_ | skip
  show ∃ v, aresults Try.prog Try.f47 _ _ = some v ∧ _
  rw [aresults_1 (r := .tmp 6) (by kernel_rfl)]
  simp -implicitDefEqProofs (disch := (try simp only [sl]); try omega) only [aresult, Option.some.injEq, exists_eq_left', sm,Qj,Qi,Qq,QC,Qz,bd,QF,look,aput,QB,Qf,QA,ty,↓reduceIte,Nat.reduceEqDiff,Nat.reduceAdd,Nat.reduceSub,Nat.reduceMul,Int.reduceLT,Int.reduceLE,Int.reduceNeg,Int.reduceToNat,reduceCtorEq,Nat.reduceBEq,Nat.reduceBNe,Qk,Qe,Value.cells,am,mm,keep]
  exact ⟨o6.sl, e46⟩
end Go.Proofs.Ytpiaohajbbdpdaa

namespace Go.Proofs.Ytpiaohajbbdpdaa
open Go Go.RowKit
set_option linter.unusedSimpArgs false
set_option linter.unusedVariables false
set_option maxRecDepth 4000
set_option maxHeartbeats 4000000 in
theorem refsum_calls (v : Value) (bs : List UInt8) (H : AH) (hv : SL H v (bs.map U8)) (hl : bs.length ≤ 1099511627000) :
    ACalls Try.prog 34 #[v] H fun r H' => r = .agg ((digest bs).map U8).toArray ∧ Ext H H' := by
  have hd : digest bs = doutB (absorb (bs ++ padB bs.length) ((bs ++ padB bs.length).length / 64)) := rfl
  have hlen : (bs ++ padB bs.length).length = bs.length + zN bs.length + 9 := by rw [List.length_append, padB_length]; omega
  have hmod : (bs.length + zN bs.length + 9) % 64 = 0 := by unfold zN; omega
  have hzn : zN bs.length ≤ 63 := by unfold zN; omega
  refine acalls_of_body Try.func34 rfl Try.ntmps34 (by simp) ?_
  simp only [argsT, Nat.reduceAdd]
  iterate 2 ((repeat first | refine Qo ?_ | refine Qn ?_); (first | refine Qp (by kernel_rfl) ?_); simp -implicitDefEqProofs (disch := (try simp only [sl]); try omega) only [sm,QJ,Qj,Qi,Qq,QC,bd,look,aput,Qm,QB,Qf,Qh,ty,↓reduceIte,Nat.reduceEqDiff,Nat.reduceAdd,Nat.reduceSub,Nat.reduceMul,Int.reduceLT,Int.reduceLE,Int.reduceNeg,Int.reduceToNat,reduceCtorEq,Nat.reduceBEq,Nat.reduceBNe,Qk,Qe,Value.cells,am,mm,keep])
  generalize hH1 : H ++ [ABlk.own (List.replicate 32 (Value.int .u8 0))] = H1
  have x1 : Ext H H1 := by rw [← hH1]; exact (by repeat first | assumption | exact Ext.refl _ | exact Ext.pre (by assumption) | exact Ext.pre (Ext.pre (by assumption)) | exact Ext.pre (Ext.pre (Ext.pre (by assumption))) | exact Ext.pre (Ext.pre (Ext.pre (Ext.pre (by assumption)))) | apply Ext.pushed | refine Ext.both ?_ _ _ | refine Ext.set ?_ _ (by omega))
  have a1 : H1[H.length]? = some (.own (List.replicate 32 (Value.int .u8 0))) := by rw [← hH1]; exact (by simp -implicitDefEqProofs (disch := (try simp only [sl]); try omega) only [sm,Qj,Qi,Qq,QC,bd,look,aput,ty,↓reduceIte,Nat.reduceEqDiff,Nat.reduceAdd,Nat.reduceSub,Nat.reduceMul,Int.reduceLT,Int.reduceLE,Int.reduceNeg,Int.reduceToNat,reduceCtorEq,Nat.reduceBEq,Nat.reduceBNe,Qk,Qe,Value.cells,am,mm,keep])
  clear hH1
  refine ACalls.mono (all_calls H1) ?_
  rintro _ H2 ⟨vk, vs, rfl, hk, hs, e2⟩
  try simp -implicitDefEqProofs (disch := (try simp only [sl]); try omega) only [sm,QJ,Qj,Qi,Qq,QC,bd,look,aput,Qm,QB,Qf,Qh,ty,↓reduceIte,Nat.reduceEqDiff,Nat.reduceAdd,Nat.reduceSub,Nat.reduceMul,Int.reduceLT,Int.reduceLE,Int.reduceNeg,Int.reduceToNat,reduceCtorEq,Nat.reduceBEq,Nat.reduceBNe,Qk,Qe,Value.cells,am,mm,keep]
  iterate 1 ((repeat first | refine Qo ?_ | refine Qn ?_); (first | refine Qp (by kernel_rfl) ?_); simp -implicitDefEqProofs (disch := (try simp only [sl]); try omega) only [sm,QJ,Qj,Qi,Qq,QC,bd,look,aput,Qm,QB,Qf,ty,↓reduceIte,Nat.reduceEqDiff,Nat.reduceAdd,Nat.reduceSub,Nat.reduceMul,Int.reduceLT,Int.reduceLE,Int.reduceNeg,Int.reduceToNat,reduceCtorEq,Nat.reduceBEq,Nat.reduceBNe,Qk,Qe,Value.cells,am,mm,keep])
  refine ACalls.mono (pad_calls v bs H2 ((hv.mono x1).mono e2) hl) ?_
  rintro vp H3 ⟨hp, e3⟩
  rw [hd]
  generalize hP : bs ++ padB bs.length = p at *
  obtain ⟨g, o, e, cs, rfl, hc, -, -, -, -⟩ := hp.bytes (by omega)
  have hk3 := hk.mono e3
  have hs3 : SL H3 vs ((absorb p 0).map U32) := hs.mono e3
  try simp -implicitDefEqProofs (disch := (try simp only [sl]); try omega) only [sm,QJ,Qj,Qi,Qq,QC,bd,look,aput,Qm,QB,Qf,ty,↓reduceIte,Nat.reduceEqDiff,Nat.reduceAdd,Nat.reduceSub,Nat.reduceMul,Int.reduceLT,Int.reduceLE,Int.reduceNeg,Int.reduceToNat,reduceCtorEq,Nat.reduceBEq,Nat.reduceBNe,Qk,Qe,Value.cells,am,mm,keep, hlen]
  iterate 1 ((repeat first | refine Qo ?_ | refine Qn ?_); (first | refine Qp (by kernel_rfl) ?_); simp -implicitDefEqProofs (disch := (try simp only [sl]); try omega) only [sm,QJ,Qj,Qi,Qq,QC,bd,look,aput,QB,Qf,ty,↓reduceIte,Nat.reduceEqDiff,Nat.reduceAdd,Nat.reduceSub,Nat.reduceMul,Int.reduceLT,Int.reduceLE,Int.reduceNeg,Int.reduceToNat,reduceCtorEq,Nat.reduceBEq,Nat.reduceBNe,Qk,Qe,Value.cells,am,mm,keep])
  repeat first | refine Qo ?_ | refine Qn ?_
  refine awp_forK [2, 3, 5] (fun i : Nat × AH × Value => [(6, I64 (64 * i.1)), (4, i.2.2)]) (fun i : Nat × AH × Value => i.2.1) (fun i : Nat × AH × Value => 64 * i.1 ≤ p.length ∧ Ext H3 i.2.1 ∧ SL i.2.1 i.2.2 ((absorb p i.1).map U32)) (fun i : Nat × AH × Value => p.length - 64 * i.1) ((0, H3, vs)) (⟨by omega, Ext.refl _, hs3⟩) (by repeat first | exact Forgets.nil | refine Forgets.cons (by first | (simp only [look, ↓reduceIte, Nat.reduceEqDiff]; done) | (simp only [look, ↓reduceIte, Nat.reduceEqDiff]; rfl) | simp [look]) ?_) rfl ?_
  rintro ⟨k, H4, s4⟩ ⟨hk', e4, o4⟩
  simp only [] at hk' e4 o4 ⊢
  try simp -implicitDefEqProofs (disch := (try simp only [sl]); try omega) only [sm,QJ,Qj,Qi,Qq,QC,bd,look,aput,QB,Qf,ty,↓reduceIte,Nat.reduceEqDiff,Nat.reduceAdd,Nat.reduceSub,Nat.reduceMul,Int.reduceLT,Int.reduceLE,Int.reduceNeg,Int.reduceToNat,reduceCtorEq,Nat.reduceBEq,Nat.reduceBNe,Qk,Qe,Value.cells,am,mm,keep]
  iterate 1 ((repeat first | refine Qo ?_ | refine Qn ?_); (first | refine Qp (by kernel_rfl) ?_); simp -implicitDefEqProofs (disch := (try simp only [sl]); try omega) only [sm,QJ,Qj,Qi,Qq,QC,bd,look,aput,QB,Qf,QI,abin,anil,ty,↓reduceIte,Nat.reduceEqDiff,Nat.reduceAdd,Nat.reduceSub,Nat.reduceMul,Int.reduceLT,Int.reduceLE,Int.reduceNeg,Int.reduceToNat,reduceCtorEq,Nat.reduceBEq,Nat.reduceBNe,Qk,Qe,Value.cells,am,mm,keep, hlen])
  repeat first | refine Qo ?_ | refine Qn ?_
  refine awp_if _ rfl (by simp only [aeval_tmp, look, ↓reduceIte, Nat.reduceEqDiff]; exact rfl) ?_ ?_
  · intro hlt
    try simp only [ge_iff_le, gt_iff_lt, decide_eq_true_eq, decide_eq_false_iff_not, Nat.not_lt, Int.not_lt, Nat.not_le, Int.not_le, Bool.and_eq_true, Bool.or_eq_true, Bool.or_eq_false_iff, bne_iff_ne, ne_eq, beq_iff_eq, bne_eq_false_iff_eq, beq_eq_false_iff_ne, Bool.not_eq_true, Bool.not_eq_false, Bool.not_eq_eq_eq_not, Bool.not_true, Bool.not_false, Nat.not_le, Int.ofNat_lt, Int.ofNat_le, Int.natCast_inj] at hlt
    iterate 2 ((repeat first | refine Qo ?_ | refine Qn ?_); (first | refine awp_skip ?_ | refine Qp (by kernel_rfl) ?_); simp -implicitDefEqProofs (disch := (try simp only [sl]); try omega) only [sm,QJ,Qj,Qi,Qq,QC,bd,look,aput,Qm,QB,Qf,QI,abin,anil,Qr,aslice3,asl3,loN,hiN,ty,↓reduceIte,Nat.reduceEqDiff,Nat.reduceAdd,Nat.reduceSub,Nat.reduceMul,Int.reduceLT,Int.reduceLE,Int.reduceNeg,Int.reduceToNat,reduceCtorEq,Nat.reduceBEq,Nat.reduceBNe,Qk,Qe,Value.cells,am,mm,keep, hlen])
    have hb := (hp.mono e4).subm (64 * k) 64 (if e = 1 then e else 0) (by omega)
    have hab : absorb p (k + 1) = blockW (absorb p k) ((p.drop (64 * k)).take 64) := rfl
    refine ACalls.mono (step_calls vk s4 _ (absorb p k) ((p.drop (64 * k)).take 64) H4 (hk3.mono e4) o4 hb (absorb_length _ _) (by rw [List.length_take, List.length_drop]; omega)) ?_
    rintro s5 H5 ⟨o5, e5⟩
    rw [← hab] at o5
    try simp -implicitDefEqProofs (disch := (try simp only [sl]); try omega) only [sm,QJ,Qj,Qi,Qq,QC,bd,look,aput,Qm,QB,Qf,QI,abin,anil,Qr,aslice3,asl3,loN,hiN,ty,↓reduceIte,Nat.reduceEqDiff,Nat.reduceAdd,Nat.reduceSub,Nat.reduceMul,Int.reduceLT,Int.reduceLE,Int.reduceNeg,Int.reduceToNat,reduceCtorEq,Nat.reduceBEq,Nat.reduceBNe,Qk,Qe,Value.cells,am,mm,keep]
    iterate 1 ((repeat first | refine Qo ?_ | refine Qn ?_); (first | refine Qp (by kernel_rfl) ?_); simp -implicitDefEqProofs (disch := (try simp only [sl]); try omega) only [sm,QJ,Qj,Qi,Qq,QC,bd,look,aput,QB,Qf,QI,abin,anil,ty,↓reduceIte,Nat.reduceEqDiff,Nat.reduceAdd,Nat.reduceSub,Nat.reduceMul,Int.reduceLT,Int.reduceLE,Int.reduceNeg,Int.reduceToNat,reduceCtorEq,Nat.reduceBEq,Nat.reduceBNe,Qk,Qe,Value.cells,am,mm,keep])
    refine ⟨(k + 1, H5, s5), ⟨by simp only []; omega, e4.trans e5, o5⟩, (by repeat first | exact Forgets.nil | refine Forgets.cons (by first | (simp only [look, ↓reduceIte, Nat.reduceEqDiff]; done) | (simp only [look, ↓reduceIte, Nat.reduceEqDiff]; rfl) | simp [look]) ?_), ?_⟩
    first | omega | exact ⟨rfl, by omega⟩ | exact ⟨rfl, by simp only []; omega⟩ | (simp only []; omega)
  intro hge
  try simp only [ge_iff_le, gt_iff_lt, decide_eq_true_eq, decide_eq_false_iff_not, Nat.not_lt, Int.not_lt, Nat.not_le, Int.not_le, Bool.and_eq_true, Bool.or_eq_true, Bool.or_eq_false_iff, bne_iff_ne, ne_eq, beq_iff_eq, bne_eq_false_iff_eq, beq_eq_false_iff_ne, Bool.not_eq_true, Bool.not_eq_false, Bool.not_eq_eq_eq_not, Bool.not_true, Bool.not_false, Nat.not_le, Int.ofNat_lt, Int.ofNat_le, Int.natCast_inj] at hge
  rw [show (bs.length + zN bs.length + 9) / 64 = k by omega]
  have hal := absorb_length p k
  generalize absorb p k = hw at *
  iterate 3 ((repeat first | refine Qo ?_ | refine Qn ?_); (first | refine awp_exit ?_ | refine Qp (by kernel_rfl) ?_); simp -implicitDefEqProofs (disch := (try simp only [sl]); try omega) only [sm,QJ,Qj,Qi,Qq,QC,bd,look,aput,QB,Qf,ty,↓reduceIte,Nat.reduceEqDiff,Nat.reduceAdd,Nat.reduceSub,Nat.reduceMul,Int.reduceLT,Int.reduceLE,Int.reduceNeg,Int.reduceToNat,reduceCtorEq,Nat.reduceBEq,Nat.reduceBNe,Qk,Qe,Value.cells,am,mm,keep])
  have hdl := doutB_length hw
  have hfill : fillL (fun i => (hw.getD (i / 4) 0 >>> UInt32.ofNat (24 - 8 * (i % 4))).toUInt8) (zb 32) 32 = doutB hw := fillL_all _ _ 32 (zb_length 32)
  have hfl := fillL_length (fun i => (hw.getD (i / 4) 0 >>> UInt32.ofNat (24 - 8 * (i % 4))).toUInt8) (zb 32)
  rw [QO]
  generalize hF : (fun i => (hw.getD (i / 4) 0 >>> UInt32.ofNat (24 - 8 * (i % 4))).toUInt8) = F at *
  have hzl := zb_length 32
  have x4 := x1.trans (e2.trans (e3.trans e4))
  have d5 := (e2.trans (e3.trans e4)) _ _ a1
  have g5 := got_lt d5
  obtain ⟨g1, o1, d1, cs1, rfl, hc1, gl1, -, hi1, -⟩ := o4.at (by rw [List.length_map]; omega)
  rw [List.length_map] at hi1 ⊢
  generalize zb 32 = z at *
  repeat first | refine Qo ?_ | refine Qn ?_
  refine awp_forK [2, 4, 7] (fun i : Nat => [(8, I64 i)]) (fun i : Nat => H4 ++ [.own ((fillL F z i).map U8)]) (fun i : Nat => i ≤ 32) (fun i : Nat => 32 - i) (0) (by omega) (by repeat first | exact Forgets.nil | refine Forgets.cons (by first | (simp only [look, ↓reduceIte, Nat.reduceEqDiff]; done) | (simp only [look, ↓reduceIte, Nat.reduceEqDiff]; rfl) | simp [look]) ?_) rfl ?_
  intro i hi
  have hfi := hfl i
  try simp -implicitDefEqProofs (disch := (try simp only [sl]); try omega) only [sm,QJ,Qj,Qi,Qq,QC,bd,look,aput,QB,Qf,ty,↓reduceIte,Nat.reduceEqDiff,Nat.reduceAdd,Nat.reduceSub,Nat.reduceMul,Int.reduceLT,Int.reduceLE,Int.reduceNeg,Int.reduceToNat,reduceCtorEq,Nat.reduceBEq,Nat.reduceBNe,Qk,Qe,Value.cells,am,mm,keep]
  iterate 1 ((repeat first | refine Qo ?_ | refine Qn ?_); (first | refine Qp (by kernel_rfl) ?_); simp -implicitDefEqProofs (disch := (try simp only [sl]); try omega) only [sm,QJ,Qj,Qi,Qq,QC,bd,look,aput,QB,Qf,QI,abin,anil,ty,↓reduceIte,Nat.reduceEqDiff,Nat.reduceAdd,Nat.reduceSub,Nat.reduceMul,Int.reduceLT,Int.reduceLE,Int.reduceNeg,Int.reduceToNat,reduceCtorEq,Nat.reduceBEq,Nat.reduceBNe,Qk,Qe,Value.cells,am,mm,keep])
  repeat first | refine Qo ?_ | refine Qn ?_
  refine awp_if _ rfl (by simp only [aeval_tmp, look, ↓reduceIte, Nat.reduceEqDiff]; exact rfl) ?_ ?_
  · intro hlt
    try simp only [ge_iff_le, gt_iff_lt, decide_eq_true_eq, decide_eq_false_iff_not, Nat.not_lt, Int.not_lt, Nat.not_le, Int.not_le, Bool.and_eq_true, Bool.or_eq_true, Bool.or_eq_false_iff, bne_iff_ne, ne_eq, beq_iff_eq, bne_eq_false_iff_eq, beq_eq_false_iff_ne, Bool.not_eq_true, Bool.not_eq_false, Bool.not_eq_eq_eq_not, Bool.not_true, Bool.not_false, Nat.not_le, Int.ofNat_lt, Int.ofNat_le, Int.natCast_inj] at hlt
    have j1 := hi1 (i / 4) (by omega)
    rw [mg32 _ _ (by omega)] at j1
    iterate 3 ((repeat first | refine Qo ?_ | refine Qn ?_); (first | refine awp_skip ?_ | refine Qp (by kernel_rfl) ?_); simp -implicitDefEqProofs (disch := (try simp only [sl]); try omega) only [sm,QJ,Qj,Qi,Qq,QC,Qz,bd,QF,look,aput,Qm,QH,QB,Qf,Qg,QI,abin,anil,Qb,QA,ty,↓reduceIte,Nat.reduceEqDiff,Nat.reduceAdd,Nat.reduceSub,Nat.reduceMul,Int.reduceLT,Int.reduceLE,Int.reduceNeg,Int.reduceToNat,reduceCtorEq,Nat.reduceBEq,Nat.reduceBNe,Qk,Qe,Value.cells,am,mm,keep, hc1, j1, hzl, hfi, hal])
    have hb : (hw.getD (i / 4) 0 >>> UInt32.ofNat (24 - 8 * (i % 4))).toUInt8 = F i := by rw [← hF]
    rw [hb]
    refine ⟨i + 1, by omega, (by repeat first | exact Forgets.nil | refine Forgets.cons (by first | (simp only [look, ↓reduceIte, Nat.reduceEqDiff]; done) | (simp only [look, ↓reduceIte, Nat.reduceEqDiff]; rfl) | simp [look]) ?_), ?_⟩
    first | omega | exact ⟨rfl, by omega⟩ | exact ⟨rfl, by simp only []; omega⟩ | (simp only []; omega)
  intro hge
  try simp only [ge_iff_le, gt_iff_lt, decide_eq_true_eq, decide_eq_false_iff_not, Nat.not_lt, Int.not_lt, Nat.not_le, Int.not_le, Bool.and_eq_true, Bool.or_eq_true, Bool.or_eq_false_iff, bne_iff_ne, ne_eq, beq_iff_eq, bne_eq_false_iff_eq, beq_eq_false_iff_ne, Bool.not_eq_true, Bool.not_eq_false, Bool.not_eq_eq_eq_not, Bool.not_true, Bool.not_false, Nat.not_le, Int.ofNat_lt, Int.ofNat_le, Int.natCast_inj] at hge
  obtain rfl : i = 32 := by omega
  rw [hfill] at hfi ⊢
  generalize doutB hw = dd at *
  iterate 2 ((repeat first | refine Qo ?_ | refine Qn ?_); (first | refine awp_exit ?_ | refine Qp (by kernel_rfl) ?_); simp -implicitDefEqProofs (disch := (try simp only [sl]); try omega) only [sm,QJ,Qj,Qi,Qq,QC,Qz,bd,QF,look,aput,Qm,QB,Qf,QA,ty,↓reduceIte,Nat.reduceEqDiff,Nat.reduceAdd,Nat.reduceSub,Nat.reduceMul,Int.reduceLT,Int.reduceLE,Int.reduceNeg,Int.reduceToNat,reduceCtorEq,Nat.reduceBEq,Nat.reduceBNe,Qk,Qe,Value.cells,am,mm,keep, d5, hfi, hzl])
  first | refine awp_ret ?_ | skip
  show ∃ v, aresults Try.prog Try.f34 _ _ = some v ∧ _
  rw [aresults_1 (r := .cell 2 22) (by kernel_rfl)]
  simp -implicitDefEqProofs (disch := (try simp only [sl]); try omega) only [aresult, Option.some.injEq, exists_eq_left', sm,Qj,Qi,Qq,QC,Qz,bd,QF,look,aput,QB,Qf,QA,ty,↓reduceIte,Nat.reduceEqDiff,Nat.reduceAdd,Nat.reduceSub,Nat.reduceMul,Int.reduceLT,Int.reduceLE,Int.reduceNeg,Int.reduceToNat,reduceCtorEq,Nat.reduceBEq,Nat.reduceBNe,Qk,Qe,Value.cells,am,mm,keep]
  exact (by repeat first | assumption | exact Ext.refl _ | exact Ext.pre (by assumption) | exact Ext.pre (Ext.pre (by assumption)) | exact Ext.pre (Ext.pre (Ext.pre (by assumption))) | exact Ext.pre (Ext.pre (Ext.pre (Ext.pre (by assumption)))) | apply Ext.pushed | refine Ext.both ?_ _ _ | refine Ext.set ?_ _ (by omega))
end Go.Proofs.Ytpiaohajbbdpdaa
