/- The document's block: its places, its words, its rounds. -/
import Derived.Test.YtpiaohajbbdpdaaCrf
import Derived.Test.YtpiaohajbbdpdaaC6
namespace Go.Proofs.Ytpiaohajbbdpdaa
open Go Go.RowKit
set_option linter.unusedSimpArgs false
set_option linter.unusedVariables false
set_option maxRecDepth 4000
def pl (i : Nat) : List Nat := [[0, 4, 8, 12], [1, 5, 9, 13], [2, 6, 10, 14], [3, 7, 11, 15], [0, 5, 10, 15], [1, 6, 11, 12], [2, 7, 8, 13], [3, 4, 9, 14]].getD i []
theorem pl_lt : ∀ i, i < 8 → ∃ a b c d, pl i = [a, b, c, d] ∧ a < 16 ∧ b < 16 ∧ c < 16 ∧ d < 16 := fun i h => by
  match i, h with
  | 0, _ | 1, _ | 2, _ | 3, _ | 4, _ | 5, _ | 6, _ | 7, _ => exact ⟨_, _, _, _, rfl, by decide, by decide, by decide, by decide⟩
set_option maxHeartbeats 4000000 in
theorem places_calls (H : AH) :
    ACalls Try.prog 67 #[] H fun v H' => v = .slice (some ⟨H.length + 8, 0, none⟩) 8 1 ∧ Ext H H' ∧ H'.cells (H.length + 8) = some ((List.range 8).map fun i => .slice (some ⟨H.length + i, 0, none⟩) 4 1) ∧ ∀ i, i < 8 → H'.cells (H.length + i) = some ((pl i).map fun n : Nat => I64 n) := by
  refine acalls_of_body Try.func67 rfl Try.ntmps67 (by simp) ?_
  simp only [argsT, Nat.reduceAdd]
  iterate 2 ((repeat first | refine Qo ?_ | refine Qn ?_); (first | refine Qp (by kernel_rfl) ?_); simp -implicitDefEqProofs (disch := (try simp only [sl]); try omega) only [sm,QJ,Qj,Qi,Qq,QC,bd,look,aput,QB,Qf,ty,↓reduceIte,Nat.reduceEqDiff,Nat.reduceAdd,Nat.reduceSub,Nat.reduceMul,Int.reduceLT,Int.reduceLE,Int.reduceNeg,Int.reduceToNat,reduceCtorEq,Nat.reduceBEq,Nat.reduceBNe,Qk,Qe,Value.cells,am,mm,keep])
  first | refine awp_ret ?_ | skip
  show ∃ v, aresults Try.prog Try.f67 _ _ = some v ∧ _
  rw [aresults_1 (r := .tmp 0) (by kernel_rfl)]
  simp -implicitDefEqProofs (disch := (try simp only [sl]); try omega) only [aresult, Option.some.injEq, exists_eq_left', sm,Qj,Qi,Qq,QC,Qz,bd,QF,look,aput,QB,Qf,QA,ty,↓reduceIte,Nat.reduceEqDiff,Nat.reduceAdd,Nat.reduceSub,Nat.reduceMul,Int.reduceLT,Int.reduceLE,Int.reduceNeg,Int.reduceToNat,reduceCtorEq,Nat.reduceBEq,Nat.reduceBNe,Qk,Qe,Value.cells,am,mm,keep]
  refine ⟨(by repeat first | assumption | exact Ext.refl _ | exact Ext.pre (by assumption) | exact Ext.pre (Ext.pre (by assumption)) | exact Ext.pre (Ext.pre (Ext.pre (by assumption))) | exact Ext.pre (Ext.pre (Ext.pre (Ext.pre (by assumption)))) | apply Ext.pushed | refine Ext.both ?_ _ _ | refine Ext.set ?_ _ (by omega)), rfl, fun i hi => ?_⟩
  match i, hi with
  | 0, _ | 1, _ | 2, _ | 3, _ | 4, _ | 5, _ | 6, _ | 7, _ => simp [AH.cells, pl, List.getElem?_append, ncast]
def placR (w : List UInt32) : Nat → List UInt32
  | 0 => w
  | i + 1 => turn (placR w i) ((pl i).getD 0 0) ((pl i).getD 1 0) ((pl i).getD 2 0) ((pl i).getD 3 0)
def setsP (w : List UInt32) (ps : List Nat) (qs : List UInt32) : Nat → List UInt32
  | 0 => w
  | k + 1 => (setsP w ps qs k).set (ps.getD k 0) (qs.getD k 0)
theorem setsP_length (w : List UInt32) (ps : List Nat) (qs : List UInt32) (k : Nat) : (setsP w ps qs k).length = w.length := by induction k with
  | zero => rfl
  | succ k ih => rw [setsP, List.length_set, ih]
theorem setsP_step (w qs : List UInt32) (a b c d k : Nat) (hk : k < 4) (ha : a < 16) (hb : b < 16) (hc : c < 16) (hd : d < 16) : ∃ m, [I64 a, I64 b, I64 c, I64 d][k]? = some (I64 m) ∧ m < 16 ∧ setsP w [a, b, c, d] qs (k + 1) = (setsP w [a, b, c, d] qs k).set m (qs.getD k 0) := by
  match k, hk with
  | 0, _ => exact ⟨a, rfl, ha, rfl⟩
  | 1, _ => exact ⟨b, rfl, hb, rfl⟩
  | 2, _ => exact ⟨c, rfl, hc, rfl⟩
  | 3, _ => exact ⟨d, rfl, hd, rfl⟩
theorem placR_all (w : List UInt32) : placR w 8 = diaR (colR w 4) 4 := rfl
theorem placR_length (w : List UInt32) (i : Nat) : (placR w i).length = w.length := by induction i with
  | zero => rfl
  | succ i ih => rw [placR, turn_length, ih]
def kws (ks : List UInt8) (i : Nat) : List UInt32 := [1634760805, 857760878, 2036477234, 1797285236] ++ (List.range i).map fun j => le32L (ks.drop (4 * j))
def nws (ns : List UInt8) (l : List UInt32) (i : Nat) : List UInt32 := l ++ (List.range i).map fun j => le32L (ns.drop (4 * j))
theorem kws_succ (ks : List UInt8) (i : Nat) : kws ks (i + 1) = kws ks i ++ [le32L (ks.drop (4 * i))] := by rw [kws, kws, List.range_succ, List.map_append, List.append_assoc]; rfl
theorem nws_succ (ns : List UInt8) (l : List UInt32) (i : Nat) : nws ns l (i + 1) = nws ns l i ++ [le32L (ns.drop (4 * i))] := by rw [nws, nws, List.range_succ, List.map_append, List.append_assoc]; rfl
theorem kws_length (ks : List UInt8) (i : Nat) : (kws ks i).length = 4 + i := by simp [kws]; omega
theorem nws_length (ns : List UInt8) (l : List UInt32) (i : Nat) : (nws ns l i).length = l.length + i := by simp [nws]
theorem words_all (ks ns : List UInt8) (c : UInt32) : nws ns (kws ks 8 ++ [c]) 3 = wnon ks ns c 3 := rfl
theorem le32L_take (l : List UInt8) (n : Nat) : le32L ((l.drop n).take 4) = le32L (l.drop n) := by
  unfold le32L
  simp only [List.getD_eq_getElem?_getD, List.getElem?_take, Nat.reduceLT, if_true]
set_option maxHeartbeats 4000000 in
theorem refblock_calls (ks ns : List UInt8) (c : UInt32) (H : AH) (hk : ks.length = 32) (hn : ns.length = 12) :
    ACalls Try.prog 56 #[.agg (ks.map U8).toArray, .agg (ns.map U8).toArray, U32 c] H fun v H' => v = .agg ((blockB ks ns c).map U8).toArray ∧ Ext H H' := by
  refine acalls_of_body Try.func56 rfl Try.ntmps56 (by simp) ?_
  simp only [argsT, Nat.reduceAdd]
  iterate 3 ((repeat first | refine Qo ?_ | refine Qn ?_); (first | refine Qp (by kernel_rfl) ?_); simp -implicitDefEqProofs (disch := (try simp only [sl]); try omega) only [sm,QJ,Qj,Qi,Qq,QC,bd,look,aput,QB,Qf,ty,↓reduceIte,Nat.reduceEqDiff,Nat.reduceAdd,Nat.reduceSub,Nat.reduceMul,Int.reduceLT,Int.reduceLE,Int.reduceNeg,Int.reduceToNat,reduceCtorEq,Nat.reduceBEq,Nat.reduceBNe,Qk,Qe,Value.cells,am,mm,keep, hk, hn, QO])
  generalize hH1 : H ++ [ABlk.own (ks.map U8)] ++ [ABlk.own (ns.map U8)] ++ [ABlk.own ((zb 64).map U8)] = H1
  have h0 : Ext H H1 := by rw [← hH1]; exact (by repeat first | assumption | exact Ext.refl _ | exact Ext.pre (by assumption) | exact Ext.pre (Ext.pre (by assumption)) | exact Ext.pre (Ext.pre (Ext.pre (by assumption))) | exact Ext.pre (Ext.pre (Ext.pre (Ext.pre (by assumption)))) | apply Ext.pushed | refine Ext.both ?_ _ _ | refine Ext.set ?_ _ (by omega))
  have hl1 : H1.length = H.length + 3 := by rw [← hH1]; simp
  have a0 : H1[H.length]? = some (.own (ks.map U8)) := by rw [← hH1]; exact (by simp -implicitDefEqProofs (disch := (try simp only [sl]); try omega) only [sm,Qj,Qi,Qq,QC,bd,look,aput,ty,↓reduceIte,Nat.reduceEqDiff,Nat.reduceAdd,Nat.reduceSub,Nat.reduceMul,Int.reduceLT,Int.reduceLE,Int.reduceNeg,Int.reduceToNat,reduceCtorEq,Nat.reduceBEq,Nat.reduceBNe,Qk,Qe,Value.cells,am,mm,keep])
  have a1 : H1[H.length + 1]? = some (.own (ns.map U8)) := by rw [← hH1]; exact (by simp -implicitDefEqProofs (disch := (try simp only [sl]); try omega) only [sm,Qj,Qi,Qq,QC,bd,look,aput,ty,↓reduceIte,Nat.reduceEqDiff,Nat.reduceAdd,Nat.reduceSub,Nat.reduceMul,Int.reduceLT,Int.reduceLE,Int.reduceNeg,Int.reduceToNat,reduceCtorEq,Nat.reduceBEq,Nat.reduceBNe,Qk,Qe,Value.cells,am,mm,keep])
  have a2 : H1[H.length + 2]? = some (.own ((zb 64).map U8)) := by rw [← hH1]; exact (by simp -implicitDefEqProofs (disch := (try simp only [sl]); try omega) only [sm,Qj,Qi,Qq,QC,bd,look,aput,ty,↓reduceIte,Nat.reduceEqDiff,Nat.reduceAdd,Nat.reduceSub,Nat.reduceMul,Int.reduceLT,Int.reduceLE,Int.reduceNeg,Int.reduceToNat,reduceCtorEq,Nat.reduceBEq,Nat.reduceBNe,Qk,Qe,Value.cells,am,mm,keep])
  rw [← hl1, show [Value.int .u32 1634760805, .int .u32 857760878, .int .u32 2036477234, .int .u32 1797285236] = (kws ks 0).map U32 from rfl]
  have o0 : OS (H.length + 3) (H1 ++ [ABlk.own ((kws ks 0).map U32)]) (.slice (some ⟨H1.length, 0, none⟩) 4 1) ((kws ks 0).map U32) := OS.new (by omega) rfl
  have k0 : Keeps (H.length + 3) H1 (H1 ++ [ABlk.own ((kws ks 0).map U32)]) := (Keeps.refl _ _).push (by omega) _
  generalize H1 ++ [ABlk.own ((kws ks 0).map U32)] = H2 at *
  generalize Value.slice (some ⟨H1.length, 0, none⟩) 4 1 = s2 at *
  clear hH1
  repeat first | refine Qo ?_ | refine Qn ?_
  refine awp_forK [2, 3, 4, 6] (fun i : Nat × AH × Value => [(8, I64 i.1), (7, i.2.2)]) (fun i : Nat × AH × Value => i.2.1) (fun i : Nat × AH × Value => i.1 ≤ 8 ∧ Keeps (H.length + 3) H1 i.2.1 ∧ OS (H.length + 3) i.2.1 i.2.2 ((kws ks i.1).map U32)) (fun i : Nat × AH × Value => 8 - i.1) ((0, H2, s2)) (⟨by omega, k0, o0⟩) (by repeat first | exact Forgets.nil | refine Forgets.cons (by first | (simp only [look, ↓reduceIte, Nat.reduceEqDiff]; done) | (simp only [look, ↓reduceIte, Nat.reduceEqDiff]; rfl) | simp [look]) ?_) rfl ?_
  rintro ⟨i, H3, s3⟩ ⟨hi, k3, o3⟩
  simp only [] at hi k3 o3 ⊢
  try simp -implicitDefEqProofs (disch := (try simp only [sl]); try omega) only [sm,QJ,Qj,Qi,Qq,QC,bd,look,aput,QB,Qf,ty,↓reduceIte,Nat.reduceEqDiff,Nat.reduceAdd,Nat.reduceSub,Nat.reduceMul,Int.reduceLT,Int.reduceLE,Int.reduceNeg,Int.reduceToNat,reduceCtorEq,Nat.reduceBEq,Nat.reduceBNe,Qk,Qe,Value.cells,am,mm,keep]
  iterate 1 ((repeat first | refine Qo ?_ | refine Qn ?_); (first | refine Qp (by kernel_rfl) ?_); simp -implicitDefEqProofs (disch := (try simp only [sl]); try omega) only [sm,QJ,Qj,Qi,Qq,QC,bd,look,aput,QB,Qf,QI,abin,anil,ty,↓reduceIte,Nat.reduceEqDiff,Nat.reduceAdd,Nat.reduceSub,Nat.reduceMul,Int.reduceLT,Int.reduceLE,Int.reduceNeg,Int.reduceToNat,reduceCtorEq,Nat.reduceBEq,Nat.reduceBNe,Qk,Qe,Value.cells,am,mm,keep])
  repeat first | refine Qo ?_ | refine Qn ?_
  refine awp_if _ rfl (by simp only [aeval_tmp, look, ↓reduceIte, Nat.reduceEqDiff]; exact rfl) ?_ ?_
  · intro h
    try simp only [ge_iff_le, gt_iff_lt, decide_eq_true_eq, decide_eq_false_iff_not, Nat.not_lt, Int.not_lt, Nat.not_le, Int.not_le, Bool.and_eq_true, Bool.or_eq_true, Bool.or_eq_false_iff, bne_iff_ne, ne_eq, beq_iff_eq, bne_eq_false_iff_eq, beq_eq_false_iff_ne, Bool.not_eq_true, Bool.not_eq_false, Bool.not_eq_eq_eq_not, Bool.not_true, Bool.not_false, Nat.not_le, Int.ofNat_lt, Int.ofNat_le, Int.natCast_inj] at h
    have b0 := AH.cells_own (k3.get (by omega) a0)
    iterate 2 ((repeat first | refine Qo ?_ | refine Qn ?_); (first | refine awp_skip ?_ | refine Qp (by kernel_rfl) ?_); simp -implicitDefEqProofs (disch := (try simp only [sl]); try omega) only [sm,QJ,Qj,Qi,Qq,QC,bd,look,aput,Qm,QB,Qf,QI,abin,anil,Qr,aslice3,asl3,loN,hiN,ty,↓reduceIte,Nat.reduceEqDiff,Nat.reduceAdd,Nat.reduceSub,Nat.reduceMul,Int.reduceLT,Int.reduceLE,Int.reduceNeg,Int.reduceToNat,reduceCtorEq,Nat.reduceBEq,Nat.reduceBNe,Qk,Qe,Value.cells,am,mm,keep, hk])
    refine ACalls.mono (word_calls _ ((ks.drop (4 * i)).take 4) _ (SL.part (o := 4 * i) 4 b0 (by omega)) (by simp; omega)) ?_
    rintro _ _ ⟨rfl, hHH⟩
    rw [hHH]
    clear hHH
    simp -implicitDefEqProofs (disch := (try simp only [sl]); try omega) only [sm,QJ,Qj,Qi,Qq,QC,bd,look,aput,Qm,QB,Qf,QI,abin,anil,Qr,aslice3,asl3,loN,hiN,ty,↓reduceIte,Nat.reduceEqDiff,Nat.reduceAdd,Nat.reduceSub,Nat.reduceMul,Int.reduceLT,Int.reduceLE,Int.reduceNeg,Int.reduceToNat,reduceCtorEq,Nat.reduceBEq,Nat.reduceBNe,Qk,Qe,Value.cells,am,mm,keep]
    obtain ⟨s4, H4, ha, o4, k4⟩ := OS.app1 (P := Try.prog) (t := 87) (tx := 87) (bytes := 4) (c := U32 (le32L (ks.drop (4 * i)))) (by simp only [ty]) (by simp only [ty]) o3 rfl (by simp [kws_length]; omega) (by decide) (by have := k3.1; omega)
    try simp -implicitDefEqProofs (disch := (try simp only [sl]); try omega) only [sm,QJ,Qj,Qi,Qq,QC,bd,look,aput,Qm,QB,Qf,QI,abin,anil,Qr,aslice3,asl3,loN,hiN,ty,↓reduceIte,Nat.reduceEqDiff,Nat.reduceAdd,Nat.reduceSub,Nat.reduceMul,Int.reduceLT,Int.reduceLE,Int.reduceNeg,Int.reduceToNat,reduceCtorEq,Nat.reduceBEq,Nat.reduceBNe,Qk,Qe,Value.cells,am,mm,keep, le32L_take, ha]
    iterate 1 ((repeat first | refine Qo ?_ | refine Qn ?_); (first | refine Qp (by kernel_rfl) ?_); simp -implicitDefEqProofs (disch := (try simp only [sl]); try omega) only [sm,QJ,Qj,Qi,Qq,QC,bd,look,aput,QB,Qf,QI,abin,anil,ty,↓reduceIte,Nat.reduceEqDiff,Nat.reduceAdd,Nat.reduceSub,Nat.reduceMul,Int.reduceLT,Int.reduceLE,Int.reduceNeg,Int.reduceToNat,reduceCtorEq,Nat.reduceBEq,Nat.reduceBNe,Qk,Qe,Value.cells,am,mm,keep])
    refine ⟨(i + 1, H4, s4), ⟨by simp only []; omega, k3.trans k4, by rw [kws_succ, List.map_append]; exact o4⟩, (by repeat first | exact Forgets.nil | refine Forgets.cons (by first | (simp only [look, ↓reduceIte, Nat.reduceEqDiff]; done) | (simp only [look, ↓reduceIte, Nat.reduceEqDiff]; rfl) | simp [look]) ?_), ?_⟩
    first | omega | exact ⟨rfl, by omega⟩ | exact ⟨rfl, by simp only []; omega⟩ | (simp only []; omega)
  intro h
  try simp only [ge_iff_le, gt_iff_lt, decide_eq_true_eq, decide_eq_false_iff_not, Nat.not_lt, Int.not_lt, Nat.not_le, Int.not_le, Bool.and_eq_true, Bool.or_eq_true, Bool.or_eq_false_iff, bne_iff_ne, ne_eq, beq_iff_eq, bne_eq_false_iff_eq, beq_eq_false_iff_ne, Bool.not_eq_true, Bool.not_eq_false, Bool.not_eq_eq_eq_not, Bool.not_true, Bool.not_false, Nat.not_le, Int.ofNat_lt, Int.ofNat_le, Int.natCast_inj] at h
  obtain rfl : i = 8 := by omega
  obtain ⟨s4, H4, ha, o4, k4⟩ := OS.app1 (P := Try.prog) (t := 87) (tx := 87) (bytes := 4) (c := U32 c) (by simp only [ty]) (by simp only [ty]) o3 rfl (by simp [kws_length]) (by decide) (by have := k3.1; omega)
  iterate 3 ((repeat first | refine Qo ?_ | refine Qn ?_); (first | refine awp_exit ?_ | refine Qp (by kernel_rfl) ?_); simp -implicitDefEqProofs (disch := (try simp only [sl]); try omega) only [sm,QJ,Qj,Qi,Qq,QC,bd,look,aput,Qm,QB,Qf,ty,↓reduceIte,Nat.reduceEqDiff,Nat.reduceAdd,Nat.reduceSub,Nat.reduceMul,Int.reduceLT,Int.reduceLE,Int.reduceNeg,Int.reduceToNat,reduceCtorEq,Nat.reduceBEq,Nat.reduceBNe,Qk,Qe,Value.cells,am,mm,keep, ha])
  have o5 : OS (H.length + 3) H4 s4 ((nws ns (kws ks 8 ++ [c]) 0).map U32) := by
    have : nws ns (kws ks 8 ++ [c]) 0 = kws ks 8 ++ [c] := List.append_nil _
    rw [this, List.map_append]; exact o4
  have k5 := k3.trans k4
  clear o4 k4 o3 k3 ha o0 k0
  have hln : ∀ i, (nws ns (kws ks 8 ++ [c]) i).length = 13 + i := fun i => by rw [nws_length, List.length_append, kws_length]; rfl
  repeat first | refine Qo ?_ | refine Qn ?_
  refine awp_forK [4, 6] (fun i : Nat × AH × Value => [(9, I64 i.1), (7, i.2.2)]) (fun i : Nat × AH × Value => i.2.1) (fun i : Nat × AH × Value => i.1 ≤ 3 ∧ Keeps (H.length + 3) H1 i.2.1 ∧ OS (H.length + 3) i.2.1 i.2.2 ((nws ns (kws ks 8 ++ [c]) i.1).map U32)) (fun i : Nat × AH × Value => 3 - i.1) ((0, H4, s4)) (⟨by omega, k5, o5⟩) (by repeat first | exact Forgets.nil | refine Forgets.cons (by first | (simp only [look, ↓reduceIte, Nat.reduceEqDiff]; done) | (simp only [look, ↓reduceIte, Nat.reduceEqDiff]; rfl) | simp [look]) ?_) rfl ?_
  rintro ⟨i, H3, s3⟩ ⟨hi, k3, o3⟩
  simp only [] at hi k3 o3 ⊢
  try simp -implicitDefEqProofs (disch := (try simp only [sl]); try omega) only [sm,QJ,Qj,Qi,Qq,QC,bd,look,aput,QB,Qf,ty,↓reduceIte,Nat.reduceEqDiff,Nat.reduceAdd,Nat.reduceSub,Nat.reduceMul,Int.reduceLT,Int.reduceLE,Int.reduceNeg,Int.reduceToNat,reduceCtorEq,Nat.reduceBEq,Nat.reduceBNe,Qk,Qe,Value.cells,am,mm,keep]
  iterate 1 ((repeat first | refine Qo ?_ | refine Qn ?_); (first | refine Qp (by kernel_rfl) ?_); simp -implicitDefEqProofs (disch := (try simp only [sl]); try omega) only [sm,QJ,Qj,Qi,Qq,QC,bd,look,aput,QB,Qf,QI,abin,anil,ty,↓reduceIte,Nat.reduceEqDiff,Nat.reduceAdd,Nat.reduceSub,Nat.reduceMul,Int.reduceLT,Int.reduceLE,Int.reduceNeg,Int.reduceToNat,reduceCtorEq,Nat.reduceBEq,Nat.reduceBNe,Qk,Qe,Value.cells,am,mm,keep])
  repeat first | refine Qo ?_ | refine Qn ?_
  refine awp_if _ rfl (by simp only [aeval_tmp, look, ↓reduceIte, Nat.reduceEqDiff]; exact rfl) ?_ ?_
  · intro h
    try simp only [ge_iff_le, gt_iff_lt, decide_eq_true_eq, decide_eq_false_iff_not, Nat.not_lt, Int.not_lt, Nat.not_le, Int.not_le, Bool.and_eq_true, Bool.or_eq_true, Bool.or_eq_false_iff, bne_iff_ne, ne_eq, beq_iff_eq, bne_eq_false_iff_eq, beq_eq_false_iff_ne, Bool.not_eq_true, Bool.not_eq_false, Bool.not_eq_eq_eq_not, Bool.not_true, Bool.not_false, Nat.not_le, Int.ofNat_lt, Int.ofNat_le, Int.natCast_inj] at h
    have b0 := AH.cells_own (k3.get (by omega) a1)
    iterate 2 ((repeat first | refine Qo ?_ | refine Qn ?_); (first | refine awp_skip ?_ | refine Qp (by kernel_rfl) ?_); simp -implicitDefEqProofs (disch := (try simp only [sl]); try omega) only [sm,QJ,Qj,Qi,Qq,QC,bd,look,aput,Qm,QB,Qf,QI,abin,anil,Qr,aslice3,asl3,loN,hiN,ty,↓reduceIte,Nat.reduceEqDiff,Nat.reduceAdd,Nat.reduceSub,Nat.reduceMul,Int.reduceLT,Int.reduceLE,Int.reduceNeg,Int.reduceToNat,reduceCtorEq,Nat.reduceBEq,Nat.reduceBNe,Qk,Qe,Value.cells,am,mm,keep, hn])
    refine ACalls.mono (word_calls _ ((ns.drop (4 * i)).take 4) _ (SL.part (o := 4 * i) 4 b0 (by omega)) (by simp; omega)) ?_
    rintro _ _ ⟨rfl, hHH⟩
    rw [hHH]
    clear hHH
    simp -implicitDefEqProofs (disch := (try simp only [sl]); try omega) only [sm,QJ,Qj,Qi,Qq,QC,bd,look,aput,Qm,QB,Qf,QI,abin,anil,Qr,aslice3,asl3,loN,hiN,ty,↓reduceIte,Nat.reduceEqDiff,Nat.reduceAdd,Nat.reduceSub,Nat.reduceMul,Int.reduceLT,Int.reduceLE,Int.reduceNeg,Int.reduceToNat,reduceCtorEq,Nat.reduceBEq,Nat.reduceBNe,Qk,Qe,Value.cells,am,mm,keep]
    obtain ⟨s4, H4, ha, o4, k4⟩ := OS.app1 (P := Try.prog) (t := 87) (tx := 87) (bytes := 4) (c := U32 (le32L (ns.drop (4 * i)))) (by simp only [ty]) (by simp only [ty]) o3 rfl (by simp [hln]; omega) (by decide) (by have := k3.1; omega)
    try simp -implicitDefEqProofs (disch := (try simp only [sl]); try omega) only [sm,QJ,Qj,Qi,Qq,QC,bd,look,aput,Qm,QB,Qf,QI,abin,anil,Qr,aslice3,asl3,loN,hiN,ty,↓reduceIte,Nat.reduceEqDiff,Nat.reduceAdd,Nat.reduceSub,Nat.reduceMul,Int.reduceLT,Int.reduceLE,Int.reduceNeg,Int.reduceToNat,reduceCtorEq,Nat.reduceBEq,Nat.reduceBNe,Qk,Qe,Value.cells,am,mm,keep, le32L_take, ha]
    iterate 1 ((repeat first | refine Qo ?_ | refine Qn ?_); (first | refine Qp (by kernel_rfl) ?_); simp -implicitDefEqProofs (disch := (try simp only [sl]); try omega) only [sm,QJ,Qj,Qi,Qq,QC,bd,look,aput,QB,Qf,QI,abin,anil,ty,↓reduceIte,Nat.reduceEqDiff,Nat.reduceAdd,Nat.reduceSub,Nat.reduceMul,Int.reduceLT,Int.reduceLE,Int.reduceNeg,Int.reduceToNat,reduceCtorEq,Nat.reduceBEq,Nat.reduceBNe,Qk,Qe,Value.cells,am,mm,keep])
    refine ⟨(i + 1, H4, s4), ⟨by simp only []; omega, k3.trans k4, by rw [nws_succ, List.map_append]; exact o4⟩, (by repeat first | exact Forgets.nil | refine Forgets.cons (by first | (simp only [look, ↓reduceIte, Nat.reduceEqDiff]; done) | (simp only [look, ↓reduceIte, Nat.reduceEqDiff]; rfl) | simp [look]) ?_), ?_⟩
    first | omega | exact ⟨rfl, by omega⟩ | exact ⟨rfl, by simp only []; omega⟩ | (simp only []; omega)
  intro h
  try simp only [ge_iff_le, gt_iff_lt, decide_eq_true_eq, decide_eq_false_iff_not, Nat.not_lt, Int.not_lt, Nat.not_le, Int.not_le, Bool.and_eq_true, Bool.or_eq_true, Bool.or_eq_false_iff, bne_iff_ne, ne_eq, beq_iff_eq, bne_eq_false_iff_eq, beq_eq_false_iff_ne, Bool.not_eq_true, Bool.not_eq_false, Bool.not_eq_eq_eq_not, Bool.not_true, Bool.not_false, Nat.not_le, Int.ofNat_lt, Int.ofNat_le, Int.natCast_inj] at h
  obtain rfl : i = 3 := by omega
  rw [words_all] at o3
  clear k5 o5 hln
  have hfl := wnon_length ks ns c 3
  have hB : blockB ks ns c = outB (wnon ks ns c 3) := rfl
  rw [hB]
  generalize wnon ks ns c 3 = f at *
  have ha := app_nil (P := Try.prog) (t := 87) (tx := 87) (bytes := 4) (by simp only [ty]) (by simp only [ty]) o3.sl (all32 f) (by rw [List.length_map]; omega) (by rw [List.length_map]; omega) (by omega)
  rw [List.length_map, hfl] at ha
  iterate 3 ((repeat first | refine Qo ?_ | refine Qn ?_); (first | refine awp_exit ?_ | refine Qp (by kernel_rfl) ?_); simp -implicitDefEqProofs (disch := (try simp only [sl]); try omega) only [sm,QJ,Qj,Qi,Qq,QC,bd,look,aput,Qm,QB,Qf,ty,↓reduceIte,Nat.reduceEqDiff,Nat.reduceAdd,Nat.reduceSub,Nat.reduceMul,Int.reduceLT,Int.reduceLE,Int.reduceNeg,Int.reduceToNat,reduceCtorEq,Nat.reduceBEq,Nat.reduceBNe,Qk,Qe,Value.cells,am,mm,keep, ha])
  have a3 := k3.get (by omega) a2
  have hE3 : Ext H H3 := k3.ext (by omega) h0
  have l3 := got_lt a3
  clear ha k3 a0 a1 a2 h0
  have o3 := o3.sl
  have w0 : (H3 ++ [ABlk.own (f.map U32)])[H3.length]? = some (.own (f.map U32)) := gpush _ _
  have e0 : Ext H3 (H3 ++ [ABlk.own (f.map U32)]) := Ext.push _ _
  generalize H3 ++ [ABlk.own (f.map U32)] = H4 at *
  generalize hq3 : H3.length = q at *
  repeat first | refine Qo ?_ | refine Qn ?_
  refine awp_forK [6, 7, 10] (fun i : Nat × AH => [(11, I64 i.1)]) (fun i : Nat × AH => i.2) (fun i : Nat × AH => i.1 ≤ 10 ∧ Ext H3 i.2 ∧ i.2[q]? = some (.own ((roundsR f i.1).map U32))) (fun i : Nat × AH => 10 - i.1) ((0, H4)) (⟨by omega, e0, w0⟩) (by repeat first | exact Forgets.nil | refine Forgets.cons (by first | (simp only [look, ↓reduceIte, Nat.reduceEqDiff]; done) | (simp only [look, ↓reduceIte, Nat.reduceEqDiff]; rfl) | simp [look]) ?_) rfl ?_
  rintro ⟨r, H5⟩ ⟨hr, e5, w5⟩
  simp only [] at hr e5 w5 ⊢
  try simp -implicitDefEqProofs (disch := (try simp only [sl]); try omega) only [sm,QJ,Qj,Qi,Qq,QC,bd,look,aput,QB,Qf,ty,↓reduceIte,Nat.reduceEqDiff,Nat.reduceAdd,Nat.reduceSub,Nat.reduceMul,Int.reduceLT,Int.reduceLE,Int.reduceNeg,Int.reduceToNat,reduceCtorEq,Nat.reduceBEq,Nat.reduceBNe,Qk,Qe,Value.cells,am,mm,keep]
  iterate 1 ((repeat first | refine Qo ?_ | refine Qn ?_); (first | refine Qp (by kernel_rfl) ?_); simp -implicitDefEqProofs (disch := (try simp only [sl]); try omega) only [sm,QJ,Qj,Qi,Qq,QC,bd,look,aput,QB,Qf,QI,abin,anil,ty,↓reduceIte,Nat.reduceEqDiff,Nat.reduceAdd,Nat.reduceSub,Nat.reduceMul,Int.reduceLT,Int.reduceLE,Int.reduceNeg,Int.reduceToNat,reduceCtorEq,Nat.reduceBEq,Nat.reduceBNe,Qk,Qe,Value.cells,am,mm,keep])
  repeat first | refine Qo ?_ | refine Qn ?_
  refine awp_if _ rfl (by simp only [aeval_tmp, look, ↓reduceIte, Nat.reduceEqDiff]; exact rfl) ?_ ?_
  · intro h
    try simp only [ge_iff_le, gt_iff_lt, decide_eq_true_eq, decide_eq_false_iff_not, Nat.not_lt, Int.not_lt, Nat.not_le, Int.not_le, Bool.and_eq_true, Bool.or_eq_true, Bool.or_eq_false_iff, bne_iff_ne, ne_eq, beq_iff_eq, bne_eq_false_iff_eq, beq_eq_false_iff_ne, Bool.not_eq_true, Bool.not_eq_false, Bool.not_eq_eq_eq_not, Bool.not_true, Bool.not_false, Nat.not_le, Int.ofNat_lt, Int.ofNat_le, Int.natCast_inj] at h
    iterate 2 ((repeat first | refine Qo ?_ | refine Qn ?_); (first | refine awp_skip ?_ | refine Qp (by kernel_rfl) ?_); simp -implicitDefEqProofs (disch := (try simp only [sl]); try omega) only [sm,QJ,Qj,Qi,Qq,QC,bd,look,aput,Qm,QB,Qf,ty,↓reduceIte,Nat.reduceEqDiff,Nat.reduceAdd,Nat.reduceSub,Nat.reduceMul,Int.reduceLT,Int.reduceLE,Int.reduceNeg,Int.reduceToNat,reduceCtorEq,Nat.reduceBEq,Nat.reduceBNe,Qk,Qe,Value.cells,am,mm,keep])
    refine ACalls.mono (places_calls H5) ?_
    rintro _ H6 ⟨rfl, e6, hpl, hp⟩
    try simp -implicitDefEqProofs (disch := (try simp only [sl]); try omega) only [sm,QJ,Qj,Qi,Qq,QC,bd,look,aput,Qm,QB,Qf,ty,↓reduceIte,Nat.reduceEqDiff,Nat.reduceAdd,Nat.reduceSub,Nat.reduceMul,Int.reduceLT,Int.reduceLE,Int.reduceNeg,Int.reduceToNat,reduceCtorEq,Nat.reduceBEq,Nat.reduceBNe,Qk,Qe,Value.cells,am,mm,keep]
    have w6 := e6 _ _ w5
    have e56 := e5.trans e6
    have q5 := got_lt w5
    generalize H5.length = B at *
    repeat first | refine Qo ?_ | refine Qn ?_
    refine awp_forK [6, 7, 10, 11, 59, 60] (fun i : Nat × AH => [(61, I64 i.1)]) (fun i : Nat × AH => i.2) (fun i : Nat × AH => i.1 ≤ 8 ∧ Ext H3 i.2 ∧ i.2[q]? = some (.own ((placR (roundsR f r) i.1).map U32)) ∧ i.2.cells (B + 8) = some ((List.range 8).map fun i => .slice (some ⟨B + i, 0, none⟩) 4 1) ∧ (∀ j, j < 8 → i.2.cells (B + j) = some ((pl j).map fun n : Nat => I64 n))) (fun i : Nat × AH => 8 - i.1) ((0, H6)) (⟨by omega, e56, w6, hpl, hp⟩) (by repeat first | exact Forgets.nil | refine Forgets.cons (by first | (simp only [look, ↓reduceIte, Nat.reduceEqDiff]; done) | (simp only [look, ↓reduceIte, Nat.reduceEqDiff]; rfl) | simp [look]) ?_) rfl ?_
    rintro ⟨i, H7⟩ ⟨hi, e7, w7, hpl7, hp7⟩
    simp only [] at hi e7 w7 hpl7 hp7 ⊢
    try simp -implicitDefEqProofs (disch := (try simp only [sl]); try omega) only [sm,QJ,Qj,Qi,Qq,QC,bd,look,aput,Qm,QB,Qf,ty,↓reduceIte,Nat.reduceEqDiff,Nat.reduceAdd,Nat.reduceSub,Nat.reduceMul,Int.reduceLT,Int.reduceLE,Int.reduceNeg,Int.reduceToNat,reduceCtorEq,Nat.reduceBEq,Nat.reduceBNe,Qk,Qe,Value.cells,am,mm,keep]
    iterate 1 ((repeat first | refine Qo ?_ | refine Qn ?_); (first | refine Qp (by kernel_rfl) ?_); simp -implicitDefEqProofs (disch := (try simp only [sl]); try omega) only [sm,QJ,Qj,Qi,Qq,QC,bd,look,aput,QB,Qf,QI,abin,anil,ty,↓reduceIte,Nat.reduceEqDiff,Nat.reduceAdd,Nat.reduceSub,Nat.reduceMul,Int.reduceLT,Int.reduceLE,Int.reduceNeg,Int.reduceToNat,reduceCtorEq,Nat.reduceBEq,Nat.reduceBNe,Qk,Qe,Value.cells,am,mm,keep])
    repeat first | refine Qo ?_ | refine Qn ?_
    refine awp_if _ rfl (by simp only [aeval_tmp, look, ↓reduceIte, Nat.reduceEqDiff]; exact rfl) ?_ ?_
    · intro h
      try simp only [ge_iff_le, gt_iff_lt, decide_eq_true_eq, decide_eq_false_iff_not, Nat.not_lt, Int.not_lt, Nat.not_le, Int.not_le, Bool.and_eq_true, Bool.or_eq_true, Bool.or_eq_false_iff, bne_iff_ne, ne_eq, beq_iff_eq, bne_eq_false_iff_eq, beq_eq_false_iff_ne, Bool.not_eq_true, Bool.not_eq_false, Bool.not_eq_eq_eq_not, Bool.not_true, Bool.not_false, Nat.not_le, Int.ofNat_lt, Int.ofNat_le, Int.natCast_inj] at h
      have hc := hp7 i h
      have hx : ((List.range 8).map fun i => Value.slice (some ⟨B + i, 0, none⟩) 4 1)[i]? = some (.slice (some ⟨B + i, 0, none⟩) 4 1) := by
        rw [List.getElem?_map, List.getElem?_range h]; rfl
      obtain ⟨a, b, c', d, hpi, ha, hb, hc', hd⟩ := pl_lt i h
      have hpr : placR (roundsR f r) (i + 1) = turn (placR (roundsR f r) i) a b c' d := by rw [placR, hpi]; rfl
      have hwl : (placR (roundsR f r) i).length = 16 := by rw [placR_length, roundsR_length, hfl]
      rw [hpi] at hc
      have hc7 := AH.cells_own w7
      iterate 3 ((repeat first | refine Qo ?_ | refine Qn ?_); (first | refine awp_skip ?_ | refine Qp (by kernel_rfl) ?_ | refine awp_region_drawC (id := 18) [(0, []), (1, []), (2, []), (3, []), (4, []), (5, []), (6, []), (7, []), (8, []), (9, []), (10, []), (11, []), (12, []), (13, []), (14, []), (15, []), (16, []), (17, []), (18, []), (19, []), (20, []), (21, []), (22, []), (23, []), (24, []), (26, []), (25, []), (27, [])] mixed (by kernel_rfl) ?_); simp -implicitDefEqProofs (disch := (try simp only [sl]); try omega) only [sm,QJ,aSel,Qu,Qv,Qw,Qx,Qy,Qj,Qi,Qq,QC,Qz,bd,QF,look,aput,Qm,QB,Qf,Qb,QA,ty,↓reduceIte,Nat.reduceEqDiff,Nat.reduceAdd,Nat.reduceSub,Nat.reduceMul,Int.reduceLT,Int.reduceLE,Int.reduceNeg,Int.reduceToNat,reduceCtorEq,Nat.reduceBEq,Nat.reduceBNe,Qk,Qe,Value.cells,am,mm,keep, hx, hpl7, hc, hc7, hwl])
      generalize hW : placR (roundsR f r) i = w at *
      refine ACalls.mono (refquarter_calls [w.getD a 0, w.getD b 0, w.getD c' 0, w.getD d 0] rfl _) ?_
      rintro _ H8 ⟨rfl, e8⟩
      have n8 : H8[H7.length]? = some (.own ([0, 0, 0, 0].map U32)) := e8 _ _ (gpush _ _)
      have x8 : Ext H7 H8 := (Ext.push _ _).trans e8
      have m8 := got_lt n8
      have qq : q < H7.length := got_lt w7
      have bb8 : B + 8 < H7.length := cells_lt hpl7
      have hql : (qr [w.getD a 0, w.getD b 0, w.getD c' 0, w.getD d 0]).length = 4 := qr_length _
      have htu : turn w a b c' d = (((w.set a ((qr [w.getD a 0, w.getD b 0, w.getD c' 0, w.getD d 0]).getD 0 0)).set b ((qr [w.getD a 0, w.getD b 0, w.getD c' 0, w.getD d 0]).getD 1 0)).set c' ((qr [w.getD a 0, w.getD b 0, w.getD c' 0, w.getD d 0]).getD 2 0)).set d ((qr [w.getD a 0, w.getD b 0, w.getD c' 0, w.getD d 0]).getD 3 0) := rfl
      generalize qr [w.getD a 0, w.getD b 0, w.getD c' 0, w.getD d 0] = qs at *
      try simp -implicitDefEqProofs (disch := (try simp only [sl]); try omega) only [sm,aSel,Qu,Qv,Qw,Qx,Qy,Qj,Qi,Qq,QC,Qz,bd,QF,look,aput,Qm,QB,Qf,Qb,QA,ty,↓reduceIte,Nat.reduceEqDiff,Nat.reduceAdd,Nat.reduceSub,Nat.reduceMul,Int.reduceLT,Int.reduceLE,Int.reduceNeg,Int.reduceToNat,reduceCtorEq,Nat.reduceBEq,Nat.reduceBNe,Qk,Qe,Value.cells,am,mm,keep, n8, hql]
      iterate 1 ((repeat first | refine Qo ?_ | refine Qn ?_); (first | refine Qp (by kernel_rfl) ?_); simp -implicitDefEqProofs (disch := (try simp only [sl]); try omega) only [sm,QJ,Qj,Qi,Qq,QC,bd,look,aput,QB,Qf,ty,↓reduceIte,Nat.reduceEqDiff,Nat.reduceAdd,Nat.reduceSub,Nat.reduceMul,Int.reduceLT,Int.reduceLE,Int.reduceNeg,Int.reduceToNat,reduceCtorEq,Nat.reduceBEq,Nat.reduceBNe,Qk,Qe,Value.cells,am,mm,keep])
      generalize hP : H7.length = p8 at *
      have y8 : Ext H7 (H8.set p8 (.own (qs.map U32))) := Ext.set x8 _ (by omega)
      have z8 : (H8.set p8 (.own (qs.map U32)))[p8]? = some (.own (qs.map U32)) := by rw [List.getElem?_set_self m8]
      have w8 : (H8.set p8 (.own (qs.map U32)))[q]? = some (.own ((setsP w [a, b, c', d] qs 0).map U32)) := y8 _ _ w7
      have v8 := y8.cells hc
      have u8 : Ext H3 (H8.set p8 (.own (qs.map U32))) := e7.trans y8
      have t8 := y8.cells hpl7
      have s8 := fun j hj => y8.cells (hp7 j hj)
      generalize H8.set p8 (.own (qs.map U32)) = H9 at *
      repeat first | refine Qo ?_ | refine Qn ?_
      refine awp_forK [6, 7, 10, 11, 13, 14, 59, 60, 61] (fun k : Nat × AH => [(15, I64 k.1)]) (fun k : Nat × AH => k.2) (fun k : Nat × AH => k.1 ≤ 4 ∧ Ext H3 k.2 ∧ k.2[q]? = some (.own ((setsP w [a, b, c', d] qs k.1).map U32)) ∧ k.2[p8]? = some (.own (qs.map U32)) ∧ k.2.cells (B + i) = some ([a, b, c', d].map fun n : Nat => I64 n) ∧ k.2.cells (B + 8) = some ((List.range 8).map fun i => .slice (some ⟨B + i, 0, none⟩) 4 1) ∧ (∀ j, j < 8 → k.2.cells (B + j) = some ((pl j).map fun n : Nat => I64 n))) (fun k : Nat × AH => 4 - k.1) ((0, H9)) (⟨by omega, u8, w8, z8, v8, t8, s8⟩) (by repeat first | exact Forgets.nil | refine Forgets.cons (by first | (simp only [look, ↓reduceIte, Nat.reduceEqDiff]; done) | (simp only [look, ↓reduceIte, Nat.reduceEqDiff]; rfl) | simp [look]) ?_) rfl ?_
      rintro ⟨k, HA⟩ ⟨hk4, eA, wA, pA, cA, tA, sA⟩
      simp only [] at hk4 eA wA pA cA tA sA ⊢
      try simp -implicitDefEqProofs (disch := (try simp only [sl]); try omega) only [sm,QJ,Qj,Qi,Qq,QC,bd,look,aput,QB,Qf,ty,↓reduceIte,Nat.reduceEqDiff,Nat.reduceAdd,Nat.reduceSub,Nat.reduceMul,Int.reduceLT,Int.reduceLE,Int.reduceNeg,Int.reduceToNat,reduceCtorEq,Nat.reduceBEq,Nat.reduceBNe,Qk,Qe,Value.cells,am,mm,keep]
      iterate 1 ((repeat first | refine Qo ?_ | refine Qn ?_); (first | refine Qp (by kernel_rfl) ?_); simp -implicitDefEqProofs (disch := (try simp only [sl]); try omega) only [sm,QJ,Qj,Qi,Qq,QC,bd,look,aput,QB,Qf,QI,abin,anil,ty,↓reduceIte,Nat.reduceEqDiff,Nat.reduceAdd,Nat.reduceSub,Nat.reduceMul,Int.reduceLT,Int.reduceLE,Int.reduceNeg,Int.reduceToNat,reduceCtorEq,Nat.reduceBEq,Nat.reduceBNe,Qk,Qe,Value.cells,am,mm,keep])
      repeat first | refine Qo ?_ | refine Qn ?_
      refine awp_if _ rfl (by simp only [aeval_tmp, look, ↓reduceIte, Nat.reduceEqDiff]; exact rfl) ?_ ?_
      · intro hk
        try simp only [ge_iff_le, gt_iff_lt, decide_eq_true_eq, decide_eq_false_iff_not, Nat.not_lt, Int.not_lt, Nat.not_le, Int.not_le, Bool.and_eq_true, Bool.or_eq_true, Bool.or_eq_false_iff, bne_iff_ne, ne_eq, beq_iff_eq, bne_eq_false_iff_eq, beq_eq_false_iff_ne, Bool.not_eq_true, Bool.not_eq_false, Bool.not_eq_eq_eq_not, Bool.not_true, Bool.not_false, Nat.not_le, Int.ofNat_lt, Int.ofNat_le, Int.natCast_inj] at hk
        have hsl : (setsP w [a, b, c', d] qs k).length = 16 := by rw [setsP_length, hwl]
        obtain ⟨m, hm, hm16, hset⟩ : ∃ m, [I64 a, I64 b, I64 c', I64 d][k]? = some (I64 m) ∧ m < 16 ∧ setsP w [a, b, c', d] qs (k + 1) = (setsP w [a, b, c', d] qs k).set m (qs.getD k 0) := setsP_step w qs a b c' d k hk ha hb hc' hd
        have pcA := AH.cells_own pA
        have qA := got_lt wA
        have rA := got_lt pA
        iterate 3 ((repeat first | refine Qo ?_ | refine Qn ?_); (first | refine awp_skip ?_ | refine awp_region_drawC (id := 22) [(0, []), (1, []), (2, []), (3, []), (4, []), (5, []), (6, []), (7, []), (8, []), (9, [])] mixed (by kernel_rfl) ?_ | refine Qp (by kernel_rfl) ?_); simp -implicitDefEqProofs (disch := (try simp only [sl]); try omega) only [sm,QJ,aSel,Qu,Qv,Qw,Qx,Qy,Qj,Qi,Qq,QC,Qz,bd,QF,look,aput,Qm,QB,Qf,QI,abin,anil,Qb,QA,ty,↓reduceIte,Nat.reduceEqDiff,Nat.reduceAdd,Nat.reduceSub,Nat.reduceMul,Int.reduceLT,Int.reduceLE,Int.reduceNeg,Int.reduceToNat,reduceCtorEq,Nat.reduceBEq,Nat.reduceBNe,Qk,Qe,Value.cells,am,mm,keep, cA, hm, pcA, hql, wA, hsl])
        refine ⟨(k + 1, _), ⟨by simp only []; omega, Ext.set (g := q) eA _ (by omega), by rw [hset, List.getElem?_set_self qA], (gsetn HA q p8 _ (by omega)).trans pA, (csetn HA q (B + i) _ (by omega)).trans cA, (csetn HA q (B + 8) _ (by omega)).trans tA, fun j hj => (csetn HA q (B + j) _ (by omega)).trans (sA j hj)⟩, (by repeat first | exact Forgets.nil | refine Forgets.cons (by first | (simp only [look, ↓reduceIte, Nat.reduceEqDiff]; done) | (simp only [look, ↓reduceIte, Nat.reduceEqDiff]; rfl) | simp [look]) ?_), ?_⟩
        first | omega | exact ⟨rfl, by omega⟩ | exact ⟨rfl, by simp only []; omega⟩ | (simp only []; omega)
      intro hk
      try simp only [ge_iff_le, gt_iff_lt, decide_eq_true_eq, decide_eq_false_iff_not, Nat.not_lt, Int.not_lt, Nat.not_le, Int.not_le, Bool.and_eq_true, Bool.or_eq_true, Bool.or_eq_false_iff, bne_iff_ne, ne_eq, beq_iff_eq, bne_eq_false_iff_eq, beq_eq_false_iff_ne, Bool.not_eq_true, Bool.not_eq_false, Bool.not_eq_eq_eq_not, Bool.not_true, Bool.not_false, Nat.not_le, Int.ofNat_lt, Int.ofNat_le, Int.natCast_inj] at hk
      obtain rfl : k = 4 := by omega
      rw [show setsP w [a, b, c', d] qs 4 = placR (roundsR f r) (i + 1) by rw [hpr, htu]; rfl] at wA
      iterate 2 ((repeat first | refine Qo ?_ | refine Qn ?_); (first | refine awp_exit ?_ | refine Qp (by kernel_rfl) ?_); simp -implicitDefEqProofs (disch := (try simp only [sl]); try omega) only [sm,QJ,Qj,Qi,Qq,QC,bd,look,aput,QB,Qf,QI,abin,anil,ty,↓reduceIte,Nat.reduceEqDiff,Nat.reduceAdd,Nat.reduceSub,Nat.reduceMul,Int.reduceLT,Int.reduceLE,Int.reduceNeg,Int.reduceToNat,reduceCtorEq,Nat.reduceBEq,Nat.reduceBNe,Qk,Qe,Value.cells,am,mm,keep])
      refine ⟨(i + 1, HA), ⟨by simp only []; omega, eA, wA, tA, sA⟩, (by repeat first | exact Forgets.nil | refine Forgets.cons (by first | (simp only [look, ↓reduceIte, Nat.reduceEqDiff]; done) | (simp only [look, ↓reduceIte, Nat.reduceEqDiff]; rfl) | simp [look]) ?_), ?_⟩
      first | omega | exact ⟨rfl, by omega⟩ | exact ⟨rfl, by simp only []; omega⟩ | (simp only []; omega)
    intro h
    try simp only [ge_iff_le, gt_iff_lt, decide_eq_true_eq, decide_eq_false_iff_not, Nat.not_lt, Int.not_lt, Nat.not_le, Int.not_le, Bool.and_eq_true, Bool.or_eq_true, Bool.or_eq_false_iff, bne_iff_ne, ne_eq, beq_iff_eq, bne_eq_false_iff_eq, beq_eq_false_iff_ne, Bool.not_eq_true, Bool.not_eq_false, Bool.not_eq_eq_eq_not, Bool.not_true, Bool.not_false, Nat.not_le, Int.ofNat_lt, Int.ofNat_le, Int.natCast_inj] at h
    obtain rfl : i = 8 := by omega
    rw [placR_all] at w7
    iterate 2 ((repeat first | refine Qo ?_ | refine Qn ?_); (first | refine awp_exit ?_ | refine Qp (by kernel_rfl) ?_); simp -implicitDefEqProofs (disch := (try simp only [sl]); try omega) only [sm,QJ,Qj,Qi,Qq,QC,bd,look,aput,QB,Qf,QI,abin,anil,ty,↓reduceIte,Nat.reduceEqDiff,Nat.reduceAdd,Nat.reduceSub,Nat.reduceMul,Int.reduceLT,Int.reduceLE,Int.reduceNeg,Int.reduceToNat,reduceCtorEq,Nat.reduceBEq,Nat.reduceBNe,Qk,Qe,Value.cells,am,mm,keep])
    refine ⟨(r + 1, H7), ⟨by simp only []; omega, e7, w7⟩, (by repeat first | exact Forgets.nil | refine Forgets.cons (by first | (simp only [look, ↓reduceIte, Nat.reduceEqDiff]; done) | (simp only [look, ↓reduceIte, Nat.reduceEqDiff]; rfl) | simp [look]) ?_), ?_⟩
    first | omega | exact ⟨rfl, by omega⟩ | exact ⟨rfl, by simp only []; omega⟩ | (simp only []; omega)
  intro h
  try simp only [ge_iff_le, gt_iff_lt, decide_eq_true_eq, decide_eq_false_iff_not, Nat.not_lt, Int.not_lt, Nat.not_le, Int.not_le, Bool.and_eq_true, Bool.or_eq_true, Bool.or_eq_false_iff, bne_iff_ne, ne_eq, beq_iff_eq, bne_eq_false_iff_eq, beq_eq_false_iff_ne, Bool.not_eq_true, Bool.not_eq_false, Bool.not_eq_eq_eq_not, Bool.not_true, Bool.not_false, Nat.not_le, Int.ofNat_lt, Int.ofNat_le, Int.natCast_inj] at h
  obtain rfl : r = 10 := by omega
  iterate 3 ((repeat first | refine Qo ?_ | refine Qn ?_); (first | refine awp_exit ?_ | refine Qp (by kernel_rfl) ?_); simp -implicitDefEqProofs (disch := (try simp only [sl]); try omega) only [sm,QJ,Qj,Qi,Qq,QC,bd,look,aput,QB,Qf,ty,↓reduceIte,Nat.reduceEqDiff,Nat.reduceAdd,Nat.reduceSub,Nat.reduceMul,Int.reduceLT,Int.reduceLE,Int.reduceNeg,Int.reduceToNat,reduceCtorEq,Nat.reduceBEq,Nat.reduceBNe,Qk,Qe,Value.cells,am,mm,keep])
  have ho := o3.mono e5
  have eF : Ext H3 (H5 ++ [ABlk.own (List.replicate 64 (.int .u8 0))]) := e5.pushed _
  have pF : (H5 ++ [ABlk.own (List.replicate 64 (.int .u8 0))])[H5.length]? = some (.own ((fillL (byteAt (roundsR f 10) f) (zb 64) (4 * 0)).map U8)) := gpush _ _
  have qF := eF
  have wF : (H5 ++ [ABlk.own (List.replicate 64 (.int .u8 0))])[q]? = some (.own ((roundsR f 10).map U32)) := Ext.push _ _ _ _ w5
  have q5 := got_lt w5
  generalize H5 ++ [ABlk.own (List.replicate 64 (.int .u8 0))] = H6 at *
  generalize hpp : H5.length = pp at *
  have hwl : (roundsR f 10).length = 16 := by rw [roundsR_length, hfl]
  generalize hW : roundsR f 10 = w at *
  have hoF := o3.mono eF
  repeat first | refine Qo ?_ | refine Qn ?_
  refine awp_forK [6, 7, 10, 16] (fun i : Nat × AH => [(17, I64 i.1)]) (fun i : Nat × AH => i.2) (fun i : Nat × AH => i.1 ≤ 16 ∧ Ext H3 i.2 ∧ i.2[q]? = some (.own (w.map U32)) ∧ i.2[pp]? = some (.own ((fillL (byteAt w f) (zb 64) (4 * i.1)).map U8))) (fun i : Nat × AH => 16 - i.1) ((0, H6)) (⟨by omega, eF, wF, pF⟩) (by repeat first | exact Forgets.nil | refine Forgets.cons (by first | (simp only [look, ↓reduceIte, Nat.reduceEqDiff]; done) | (simp only [look, ↓reduceIte, Nat.reduceEqDiff]; rfl) | simp [look]) ?_) rfl ?_
  rintro ⟨i, H7⟩ ⟨hi, e7, w7, p7⟩
  simp only [] at hi e7 w7 p7 ⊢
  try simp -implicitDefEqProofs (disch := (try simp only [sl]); try omega) only [sm,QJ,Qj,Qi,Qq,QC,bd,look,aput,QB,Qf,ty,↓reduceIte,Nat.reduceEqDiff,Nat.reduceAdd,Nat.reduceSub,Nat.reduceMul,Int.reduceLT,Int.reduceLE,Int.reduceNeg,Int.reduceToNat,reduceCtorEq,Nat.reduceBEq,Nat.reduceBNe,Qk,Qe,Value.cells,am,mm,keep]
  iterate 1 ((repeat first | refine Qo ?_ | refine Qn ?_); (first | refine Qp (by kernel_rfl) ?_); simp -implicitDefEqProofs (disch := (try simp only [sl]); try omega) only [sm,QJ,Qj,Qi,Qq,QC,bd,look,aput,QB,Qf,QI,abin,anil,ty,↓reduceIte,Nat.reduceEqDiff,Nat.reduceAdd,Nat.reduceSub,Nat.reduceMul,Int.reduceLT,Int.reduceLE,Int.reduceNeg,Int.reduceToNat,reduceCtorEq,Nat.reduceBEq,Nat.reduceBNe,Qk,Qe,Value.cells,am,mm,keep])
  repeat first | refine Qo ?_ | refine Qn ?_
  refine awp_if _ rfl (by simp only [aeval_tmp, look, ↓reduceIte, Nat.reduceEqDiff]; exact rfl) ?_ ?_
  · intro h
    try simp only [ge_iff_le, gt_iff_lt, decide_eq_true_eq, decide_eq_false_iff_not, Nat.not_lt, Int.not_lt, Nat.not_le, Int.not_le, Bool.and_eq_true, Bool.or_eq_true, Bool.or_eq_false_iff, bne_iff_ne, ne_eq, beq_iff_eq, bne_eq_false_iff_eq, beq_eq_false_iff_ne, Bool.not_eq_true, Bool.not_eq_false, Bool.not_eq_eq_eq_not, Bool.not_true, Bool.not_false, Nat.not_le, Int.ofNat_lt, Int.ofNat_le, Int.natCast_inj] at h
    have h7 := o3.mono e7
    obtain ⟨g1, o1, e1, cs1, hs3, hc1, -, -, k1, -⟩ := h7.at (by rw [List.length_map]; omega)
    rw [List.length_map] at hs3 k1
    have k1i := k1 i (by omega)
    rw [mg32 _ _ (by omega)] at k1i
    have cw := AH.cells_own w7
    iterate 3 ((repeat first | refine Qo ?_ | refine Qn ?_); (first | refine awp_skip ?_ | refine awp_region_drawC (id := 28) [(0, []), (1, []), (2, []), (3, []), (4, []), (5, []), (6, []), (7, []), (8, []), (9, [])] mixed (by kernel_rfl) ?_ | refine Qp (by kernel_rfl) ?_); simp -implicitDefEqProofs (disch := (try simp only [sl]); try omega) only [sm,QJ,aSel,Qu,Qv,Qw,Qx,Qy,Qj,Qi,Qq,QC,Qz,bd,QF,look,aput,QB,Qf,QI,abin,anil,Qb,QA,ty,↓reduceIte,Nat.reduceEqDiff,Nat.reduceAdd,Nat.reduceSub,Nat.reduceMul,Int.reduceLT,Int.reduceLE,Int.reduceNeg,Int.reduceToNat,reduceCtorEq,Nat.reduceBEq,Nat.reduceBNe,Qk,Qe,Value.cells,am,mm,keep, hs3, hc1, k1i, cw, hwl, hfl])
    repeat first | refine Qo ?_ | refine Qn ?_
    refine awp_forK [6, 7, 10, 16, 17, 18] (fun k : Nat × AH => [(19, I64 k.1)]) (fun k : Nat × AH => k.2) (fun k : Nat × AH => k.1 ≤ 4 ∧ Ext H3 k.2 ∧ k.2[q]? = some (.own (w.map U32)) ∧ k.2[pp]? = some (.own ((fillL (byteAt w f) (zb 64) (4 * i + k.1)).map U8))) (fun k : Nat × AH => 4 - k.1) ((0, H7)) (⟨by omega, e7, w7, p7⟩) (by repeat first | exact Forgets.nil | refine Forgets.cons (by first | (simp only [look, ↓reduceIte, Nat.reduceEqDiff]; done) | (simp only [look, ↓reduceIte, Nat.reduceEqDiff]; rfl) | simp [look]) ?_) rfl ?_
    rintro ⟨k, H8⟩ ⟨hk4, e8, w8, p8⟩
    simp only [] at hk4 e8 w8 p8 ⊢
    try simp -implicitDefEqProofs (disch := (try simp only [sl]); try omega) only [sm,QJ,Qj,Qi,Qq,QC,bd,look,aput,QB,Qf,ty,↓reduceIte,Nat.reduceEqDiff,Nat.reduceAdd,Nat.reduceSub,Nat.reduceMul,Int.reduceLT,Int.reduceLE,Int.reduceNeg,Int.reduceToNat,reduceCtorEq,Nat.reduceBEq,Nat.reduceBNe,Qk,Qe,Value.cells,am,mm,keep]
    iterate 1 ((repeat first | refine Qo ?_ | refine Qn ?_); (first | refine Qp (by kernel_rfl) ?_); simp -implicitDefEqProofs (disch := (try simp only [sl]); try omega) only [sm,QJ,Qj,Qi,Qq,QC,bd,look,aput,QB,Qf,QI,abin,anil,ty,↓reduceIte,Nat.reduceEqDiff,Nat.reduceAdd,Nat.reduceSub,Nat.reduceMul,Int.reduceLT,Int.reduceLE,Int.reduceNeg,Int.reduceToNat,reduceCtorEq,Nat.reduceBEq,Nat.reduceBNe,Qk,Qe,Value.cells,am,mm,keep])
    repeat first | refine Qo ?_ | refine Qn ?_
    refine awp_if _ rfl (by simp only [aeval_tmp, look, ↓reduceIte, Nat.reduceEqDiff]; exact rfl) ?_ ?_
    · intro hk
      try simp only [ge_iff_le, gt_iff_lt, decide_eq_true_eq, decide_eq_false_iff_not, Nat.not_lt, Int.not_lt, Nat.not_le, Int.not_le, Bool.and_eq_true, Bool.or_eq_true, Bool.or_eq_false_iff, bne_iff_ne, ne_eq, beq_iff_eq, bne_eq_false_iff_eq, beq_eq_false_iff_ne, Bool.not_eq_true, Bool.not_eq_false, Bool.not_eq_eq_eq_not, Bool.not_true, Bool.not_false, Nat.not_le, Int.ofNat_lt, Int.ofNat_le, Int.natCast_inj] at hk
      have hbl : (fillL (byteAt w f) (zb 64) (4 * i + k)).length = 64 := fillL_length _ _ _
      have q8 := got_lt w8
      have r8 := got_lt p8
      iterate 3 ((repeat first | refine Qo ?_ | refine Qn ?_); (first | refine awp_skip ?_ | refine Qp (by kernel_rfl) ?_); simp -implicitDefEqProofs (disch := (try simp only [sl]); try omega) only [sm,QJ,Qj,Qi,Qq,QC,Qz,bd,QF,look,aput,Qm,QH,QB,Qf,Qg,QI,abin,anil,Qb,ty,↓reduceIte,Nat.reduceEqDiff,Nat.reduceAdd,Nat.reduceSub,Nat.reduceMul,Int.reduceLT,Int.reduceLE,Int.reduceNeg,Int.reduceToNat,reduceCtorEq,Nat.reduceBEq,Nat.reduceBNe,Qk,Qe,Value.cells,am,mm,keep, p8, hbl])
      have hby : ((w.getD i 0 + f.getD i 0) >>> UInt32.ofNat (8 * k)).toUInt8 = byteAt w f (4 * i + k) := by
        rw [byteAt, show (4 * i + k) / 4 = i by omega, show (4 * i + k) % 4 = k by omega]
      rw [hby, show (fillL (byteAt w f) (zb 64) (4 * i + k)).set (4 * i + k) (byteAt w f (4 * i + k)) = fillL (byteAt w f) (zb 64) (4 * i + (k + 1)) from rfl]
      refine ⟨(k + 1, H8.set pp (.own ((fillL (byteAt w f) (zb 64) (4 * i + (k + 1))).map U8))), ⟨by simp only []; omega, Ext.set (g := pp) e8 _ (by omega), (gsetn H8 pp q _ (by omega)).trans w8, gset H8 pp _ r8⟩, (by repeat first | exact Forgets.nil | refine Forgets.cons (by first | (simp only [look, ↓reduceIte, Nat.reduceEqDiff]; done) | (simp only [look, ↓reduceIte, Nat.reduceEqDiff]; rfl) | simp [look]) ?_), ?_⟩
      first | omega | exact ⟨rfl, by omega⟩ | exact ⟨rfl, by simp only []; omega⟩ | (simp only []; omega)
    intro hk
    try simp only [ge_iff_le, gt_iff_lt, decide_eq_true_eq, decide_eq_false_iff_not, Nat.not_lt, Int.not_lt, Nat.not_le, Int.not_le, Bool.and_eq_true, Bool.or_eq_true, Bool.or_eq_false_iff, bne_iff_ne, ne_eq, beq_iff_eq, bne_eq_false_iff_eq, beq_eq_false_iff_ne, Bool.not_eq_true, Bool.not_eq_false, Bool.not_eq_eq_eq_not, Bool.not_true, Bool.not_false, Nat.not_le, Int.ofNat_lt, Int.ofNat_le, Int.natCast_inj] at hk
    obtain rfl : k = 4 := by omega
    iterate 2 ((repeat first | refine Qo ?_ | refine Qn ?_); (first | refine awp_exit ?_ | refine Qp (by kernel_rfl) ?_); simp -implicitDefEqProofs (disch := (try simp only [sl]); try omega) only [sm,QJ,Qj,Qi,Qq,QC,bd,look,aput,QB,Qf,QI,abin,anil,ty,↓reduceIte,Nat.reduceEqDiff,Nat.reduceAdd,Nat.reduceSub,Nat.reduceMul,Int.reduceLT,Int.reduceLE,Int.reduceNeg,Int.reduceToNat,reduceCtorEq,Nat.reduceBEq,Nat.reduceBNe,Qk,Qe,Value.cells,am,mm,keep])
    refine ⟨(i + 1, H8), ⟨by simp only []; omega, e8, w8, p8⟩, (by repeat first | exact Forgets.nil | refine Forgets.cons (by first | (simp only [look, ↓reduceIte, Nat.reduceEqDiff]; done) | (simp only [look, ↓reduceIte, Nat.reduceEqDiff]; rfl) | simp [look]) ?_), ?_⟩
    first | omega | exact ⟨rfl, by omega⟩ | exact ⟨rfl, by simp only []; omega⟩ | (simp only []; omega)
  intro h
  try simp only [ge_iff_le, gt_iff_lt, decide_eq_true_eq, decide_eq_false_iff_not, Nat.not_lt, Int.not_lt, Nat.not_le, Int.not_le, Bool.and_eq_true, Bool.or_eq_true, Bool.or_eq_false_iff, bne_iff_ne, ne_eq, beq_iff_eq, bne_eq_false_iff_eq, beq_eq_false_iff_ne, Bool.not_eq_true, Bool.not_eq_false, Bool.not_eq_eq_eq_not, Bool.not_true, Bool.not_false, Nat.not_le, Int.ofNat_lt, Int.ofNat_le, Int.natCast_inj] at h
  obtain rfl : i = 16 := by omega
  rw [show fillL (byteAt w f) (zb 64) (4 * 16) = outB f from by rw [outB, hW]; exact fillL_all _ _ 64 (by rw [zb, List.length_replicate])] at p7
  have hob : (outB f).length = 64 := by rw [outB, List.length_map, List.length_range]
  have c7 := AH.cells_own p7
  have z7 := e7 _ _ a3
  have l7 := got_lt z7
  have hx7 := hE3.trans e7
  have hzl : (zb 64).length = 64 := by rw [zb, List.length_replicate]
  generalize outB f = bs at *
  generalize zb 64 = zs at *
  iterate 2 ((repeat first | refine Qo ?_ | refine Qn ?_); (first | refine awp_exit ?_ | refine Qp (by kernel_rfl) ?_); simp -implicitDefEqProofs (disch := (try simp only [sl]); try omega) only [sm,QJ,Qj,Qi,Qq,QC,Qz,bd,QF,look,aput,Qm,QB,Qf,QA,ty,↓reduceIte,Nat.reduceEqDiff,Nat.reduceAdd,Nat.reduceSub,Nat.reduceMul,Int.reduceLT,Int.reduceLE,Int.reduceNeg,Int.reduceToNat,reduceCtorEq,Nat.reduceBEq,Nat.reduceBNe,Qk,Qe,Value.cells,am,mm,keep, c7, hob, z7])
  first | refine awp_ret ?_ | skip
  show ∃ v, aresults Try.prog Try.f56 _ _ = some v ∧ _
  rw [aresults_1 (r := .cell 6 84) (by kernel_rfl)]
  simp -implicitDefEqProofs (disch := (try simp only [sl]); try omega) only [aresult, Option.some.injEq, exists_eq_left', sm,Qj,Qi,Qq,QC,Qz,bd,QF,look,aput,QB,Qf,QA,ty,↓reduceIte,Nat.reduceEqDiff,Nat.reduceAdd,Nat.reduceSub,Nat.reduceMul,Int.reduceLT,Int.reduceLE,Int.reduceNeg,Int.reduceToNat,reduceCtorEq,Nat.reduceBEq,Nat.reduceBNe,Qk,Qe,Value.cells,am,mm,keep]
  exact (by repeat first | assumption | exact Ext.refl _ | exact Ext.pre (by assumption) | exact Ext.pre (Ext.pre (by assumption)) | exact Ext.pre (Ext.pre (Ext.pre (by assumption))) | exact Ext.pre (Ext.pre (Ext.pre (Ext.pre (by assumption)))) | apply Ext.pushed | refine Ext.both ?_ _ _ | refine Ext.set ?_ _ (by omega))
end Go.Proofs.Ytpiaohajbbdpdaa
