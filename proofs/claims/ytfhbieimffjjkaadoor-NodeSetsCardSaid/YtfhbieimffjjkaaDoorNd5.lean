/- node: all. -/
import Derived.Test.YtfhbieimffjjkaaDoorNd4
namespace Go.Proofs.YtfhbieimffjjkaaDoor
open Go Go.RowKit
--hide
set_option linter.unusedSimpArgs false
set_option linter.unusedVariables false
set_option maxRecDepth 4000
theorem rd_num6 {page : List UInt8} (h : page.length = 256) : Rd.num ⟨page, 0⟩ 1 6 = (if nB page ≤ 6 then (page.getD 0 0).toUInt64 else 0) ∧ Rd.num' ⟨page, 0⟩ 1 6 = (if nB page ≤ 6 then ⟨page.drop 1, 0⟩ else ⟨page.drop 1, 3⟩) := by
  match page, h with
  | x :: l, h =>
    have hb : Rd.bytes ⟨x :: l, 0⟩ 1 = [x] := by rw [Rd.bytes, if_pos ⟨rfl, by simp⟩]; rfl
    have hb' : Rd.bytes' ⟨x :: l, 0⟩ 1 = ⟨l, 0⟩ := by rw [Rd.bytes', if_pos rfl, if_pos (by simp)]; rfl
    have hl : leN [x] = x.toUInt64 := by
      rw [← UInt64.toNat_inj, leN_toNat _ (by simp), UInt8.toNat_toUInt64]; simp [leNat]
    unfold Rd.num Rd.num'
    rw [hb, hb', hl, UInt8.toNat_toUInt64]
    exact ⟨rfl, rfl⟩
theorem rd_chunk {page : List UInt8} (h : page.length = 256) (i : Nat) (hi : i < 6) : Rd.bytes ⟨page.drop (1 + 37 * i), 0⟩ 37 = chunk page i ∧ Rd.bytes' ⟨page.drop (1 + 37 * i), 0⟩ 37 = ⟨page.drop (1 + 37 * (i + 1)), 0⟩ := by
  have hl : 37 ≤ (page.drop (1 + 37 * i)).length := by rw [List.length_drop]; omega
  rw [Rd.bytes, if_pos ⟨rfl, hl⟩, Rd.bytes', if_pos rfl, if_pos hl, List.drop_drop]
  exact ⟨rfl, rfl⟩
theorem chunk_length {page : List UInt8} (h : page.length = 256) (i : Nat) (hi : i < 6) : (chunk page i).length = 37 := by
  rw [chunk, List.length_take, List.length_drop]; omega
theorem zerosR0 : zerosL (rcx rz).toArray 0 = flR (List.replicate 0 rz) := by kernel_rfl
theorem zerosR1 : zerosL (rcx rz).toArray 1 = flR (List.replicate 1 rz) := by kernel_rfl
theorem zerosR2 : zerosL (rcx rz).toArray 2 = flR (List.replicate 2 rz) := by kernel_rfl
theorem zerosR3 : zerosL (rcx rz).toArray 3 = flR (List.replicate 3 rz) := by kernel_rfl
theorem zerosR4 : zerosL (rcx rz).toArray 4 = flR (List.replicate 4 rz) := by kernel_rfl
theorem zerosR5 : zerosL (rcx rz).toArray 5 = flR (List.replicate 5 rz) := by kernel_rfl
theorem zerosR6 : zerosL (rcx rz).toArray 6 = flR (List.replicate 6 rz) := by kernel_rfl
theorem zerosR (n : Nat) (h : n ≤ 6) : zerosL (rcx rz).toArray n = flR (List.replicate n rz) := by
  match n, h with
  | 0, _ => exact zerosR0
  | 1, _ => exact zerosR1
  | 2, _ => exact zerosR2
  | 3, _ => exact zerosR3
  | 4, _ => exact zerosR4
  | 5, _ => exact zerosR5
  | 6, _ => exact zerosR6
def flI (page : List UInt8) (n i : Nat) : List Rf := lsN page i ++ List.replicate (n - i) rz
theorem flI_wf (page : List UInt8) (n i : Nat) : ∀ x ∈ flI page n i, rwf x := fun x hx => by
  rcases List.mem_append.1 hx with h | h
  · exact lsN_wf _ _ x h
  · rw [(List.mem_replicate.1 h).2]; exact rz_wf
theorem flI_length (page : List UInt8) (n i : Nat) (h : i ≤ n) : (flI page n i).length = n := by
  rw [flI, List.length_append, lsN_length, List.length_replicate]; omega
theorem flI_set (page : List UInt8) (n i : Nat) (h : i < n) : (flI page n i).set i (prs (chunk page i)) = flI page n (i + 1) := by
  obtain ⟨k, hk⟩ : ∃ k, n - i = k + 1 := ⟨n - i - 1, by omega⟩
  rw [flI, flI, lsN_succ, hk, show n - (i + 1) = k by omega, List.replicate_succ, List.set_append_right _ _ (by rw [lsN_length]; exact Nat.le_refl _), lsN_length, Nat.sub_self, List.set_cons_zero, List.append_assoc]
  rfl
theorem flI_end (page : List UInt8) (n : Nat) : flI page n n = lsN page n := by rw [flI, Nat.sub_self, List.replicate_zero, List.append_nil]
/-- copy of one element of s cells. -/
theorem copy1 {P : Program} {H : AH} {t tx : TypeId} {s bytes g o m e q : Nat} {cs c : List Value} (he : elemT P t = some (s, bytes)) (ht : sliceT P tx = true) (hq : H[q]? = some (.own c)) (hc : c.length = s) (hv : c.all cellv = true) (hg : H[g]? = some (.own cs)) (hm : 1 ≤ m) (ho : o + s ≤ cs.length) (h2 : 2 ≤ s) :
    acopy P H t tx (.slice (some ⟨g, o, none⟩) m e) (.slice (some ⟨q, 0, none⟩) 1 s) = some (.int .i64 1, H.set g (.own (cs.take o ++ c ++ cs.drop (o + s)))) := by
  have hsrc : asrc P H tx (.slice (some ⟨q, 0, none⟩) 1 s) s = some (c, 1) := by
    unfold asrc
    simp only [ht, if_true, AH.cells_own hq, Nat.one_mul, Nat.zero_add, List.drop_zero]
    rw [if_neg (by decide), if_pos ⟨by omega, by rw [List.take_of_length_le (by omega)]; exact hv⟩, List.take_of_length_le (by omega)]
  have hmin : min 1 m = 1 := Nat.min_eq_left hm
  have htk : c.take (1 * s) = c := List.take_of_length_le (by omega)
  unfold acopy
  simp only [he, hsrc, hmin, hg, htk]
  rw [if_neg (by decide), if_pos ⟨by omega, hv⟩, ovr_mid _ _ _ (by omega), hc]
  congr 3
  omega
theorem nsparse_calls (v : Value) (b : List UInt8) (H : AH) (hv : SL H v (b.map U8)) : ACalls Tryd.prog 80 #[v] H fun w H' => w = .tuple #[.agg (rcx (prs b)).toArray, .int .i64 (pzE b)] ∧ Ext H H' := sparse_calls v b H hv
theorem refnsparse_calls (v : Value) (b : List UInt8) (H : AH) (hv : SL H v (b.map U8)) : ACalls Tryd.prog 81 #[v] H fun w H' => w = .tuple #[.agg (rcx (prs b)).toArray, .int .i64 (pzE b)] ∧ Ext H H' := refparse_calls v b H hv
theorem flG34 (l : List Rf) (h : ∀ x ∈ l, rwf x) (i : Nat) (hi : i < l.length) (y : Rf) (hy : rwf y) : (flR l).take (i * 34) ++ rcx y ++ (flR l).drop (i * 34 + 34) = flR (l.set i y) := by
  have := flatG_set 34 rcx l (flR_hl h) i hi y
  rw [Nat.mul_comm 34 i] at this
  exact this.symm
set_option maxHeartbeats 8000000 in
theorem nall_calls (v : Value) (page : List UInt8) (H : AH) (hv : SL H v (page.map U8)) (hm : page.length ≤ 1000) :
    ACalls Tryd.prog 76 #[v] H fun w H' => (∃ x, w = .tuple #[x, .int .i64 (alE page)] ∧ OSn 34 H.length H' x (alL page).length (flR (alL page))) ∧ Ext H H' := by
  have lv := alen_sl (P := Tryd.prog) (T := 22) (by simp only [ty]) hv
  rw [List.length_map] at lv
  have h1s : sizedN 1 = 1 := rfl
  have hu6 : U64 6 = .int .u64 6 := rfl
  have nilL : OSn 34 H.length H (.slice none 0 0) 0 [] := .inl ⟨rfl, rfl, rfl⟩
  have fo_ : True := trivial
  have N_ := Now.start H
  have f_ := N_.has
  simp only [Has] at f_
  refine acalls_of_body Tryd.func76 rfl Tryd.ntmps76 (by simp) ?_
  simp only [argsT, Nat.reduceAdd]
  iterate 1 ((repeat first | refine Qo ?_ | refine Qn ?_); (first | (refine QK (by kernel_rfl) ?_; intro K_ hK_; simp -implicitDefEqProofs (disch := (try simp only [sl]); try omega) only [sm,QJ,Qj,Qi,Qq,QC,bd,look,aput,ty,↓reduceIte,Nat.reduceEqDiff,Nat.reduceAdd,Nat.reduceSub,Nat.reduceMul,Int.reduceLT,Int.reduceLE,Int.reduceNeg,Int.reduceToNat,reduceCtorEq,Nat.reduceBEq,Nat.reduceBNe,Qk,Qe,Value.cells,am,mm,keep, f_, fo_, aint, lv]; refine hK_ _ _ ?_; clear hK_ K_; repeat first | refine QL ?_ | refine QM ?_)))
  by_cases hl : page.length = 256
  · have hb : ((page.length : Int) != 256) = false := by rw [hl]; rfl
    iterate 1 ((repeat first | refine Qo ?_ | refine Qn ?_); (first | (refine QK (by kernel_rfl) ?_; intro K_ hK_; simp -implicitDefEqProofs (disch := (try simp only [sl]); try omega) only [sm,QJ,Qj,Qi,Qq,QC,bd,look,aput,QI,abin,anil,ty,↓reduceIte,Nat.reduceEqDiff,Nat.reduceAdd,Nat.reduceSub,Nat.reduceMul,Int.reduceLT,Int.reduceLE,Int.reduceNeg,Int.reduceToNat,reduceCtorEq,Nat.reduceBEq,Nat.reduceBNe,Qk,Qe,Value.cells,am,mm,keep, f_, fo_, aint, lv, hb]; refine hK_ _ _ ?_; clear hK_ K_; repeat first | refine QL ?_ | refine QM ?_)))
    repeat first | refine Qo ?_ | refine Qn ?_
    refine awp_if false rfl (by simp only [aeval_tmp, look, ↓reduceIte, Nat.reduceEqDiff]; try rfl) (fun h => absurd h (by decide)) (fun _ => ?_)
    iterate 1 ((repeat first | refine Qo ?_ | refine Qn ?_); (first | (refine QK (by kernel_rfl) ?_; intro K_ hK_; simp -implicitDefEqProofs (disch := (try simp only [sl]); try omega) only [sm,QJ,Qj,Qi,Qq,QC,bd,look,aput,Qm,ty,↓reduceIte,Nat.reduceEqDiff,Nat.reduceAdd,Nat.reduceSub,Nat.reduceMul,Int.reduceLT,Int.reduceLE,Int.reduceNeg,Int.reduceToNat,reduceCtorEq,Nat.reduceBEq,Nat.reduceBNe,Qk,Qe,Value.cells,am,mm,keep, f_, fo_, aint, lv]; refine hK_ _ _ ?_; clear hK_ K_; repeat first | refine QL ?_ | refine QM ?_) | (refine awp_skip ?_; repeat first | refine QL ?_ | refine QM ?_)))
    (repeat first | refine Qo ?_ | refine Qn ?_); refine QK (by kernel_rfl) ?_; intro K_ hK_; simp -implicitDefEqProofs (disch := (try simp only [sl]); try omega) only [sm,QJ,Qj,Qi,Qq,QC,bd,look,aput,Qm,ty,↓reduceIte,Nat.reduceEqDiff,Nat.reduceAdd,Nat.reduceSub,Nat.reduceMul,Int.reduceLT,Int.reduceLE,Int.reduceNeg,Int.reduceToNat,reduceCtorEq,Nat.reduceBEq,Nat.reduceBNe,Qk,Qe,Value.cells,am,mm,keep, f_, fo_, aint, lv]
    refine ACalls.mono (rdread_calls v page H hv H.length hv.blk) ?_
    rintro _ H1 ⟨g, rfl, hg, i1, e1⟩
    replace N_ := N_.grow e1
    clear fo_; have fo_ := f_; clear f_
    have f_ := N_.has
    simp only [Has] at f_
    try simp -implicitDefEqProofs (disch := (try simp only [sl]); try omega) only [sm,QJ,Qj,Qi,Qq,QC,bd,look,aput,Qm,ty,↓reduceIte,Nat.reduceEqDiff,Nat.reduceAdd,Nat.reduceSub,Nat.reduceMul,Int.reduceLT,Int.reduceLE,Int.reduceNeg,Int.reduceToNat,reduceCtorEq,Nat.reduceBEq,Nat.reduceBNe,Qk,Qe,Value.cells,am,mm,keep, f_, fo_, aint, lv]
    try (refine hK_ _ _ ?_; clear hK_ K_; repeat first | refine QL ?_ | refine QM ?_)
    (repeat first | refine Qo ?_ | refine Qn ?_); refine QK (by kernel_rfl) ?_; intro K_ hK_; simp -implicitDefEqProofs (disch := (try simp only [sl]); try omega) only [sm,QJ,Qj,Qi,Qq,QC,Qz,bd,QF,look,aput,Qm,QH,Qg,ty,↓reduceIte,Nat.reduceEqDiff,Nat.reduceAdd,Nat.reduceSub,Nat.reduceMul,Int.reduceLT,Int.reduceLE,Int.reduceNeg,Int.reduceToNat,reduceCtorEq,Nat.reduceBEq,Nat.reduceBNe,Qk,Qe,Value.cells,am,mm,keep, f_, fo_, aint, lv]
    rw [← hu6]
    refine ACalls.mono (rdnum_calls g 1 6 ⟨page, 0⟩ H1 H.length hg i1 (by simp only []; omega) (by decide) (by decide)) ?_
    rintro _ H2 ⟨rfl, i2, b2⟩
    rw [h1s, (rd_num6 hl).1]
    rw [h1s, (rd_num6 hl).2] at i2
    replace N_ := N_.but b2 (by omega) (by repeat first | exact List.forall_mem_nil _ | refine List.forall_mem_cons.2 ⟨by simp only []; omega, ?_⟩)
    clear fo_; have fo_ := f_; clear f_
    have f_ := N_.has
    simp only [Has] at f_
    by_cases h6 : nB page ≤ 6
    · rw [if_pos h6]
      rw [if_pos h6] at i2
      have hcv : IntKind.i64.wrap (((page.getD 0 0).toUInt64.toNat : Nat) : Int) = (nB page : Int) := by rw [UInt8.toNat_toUInt64]; exact wi64 _ (by omega) (by have := (page.getD 0 0).toNat_lt; omega)
      try simp -implicitDefEqProofs (disch := (try simp only [sl]); try omega) only [sm,QJ,Qj,Qi,Qq,QC,Qz,bd,QF,look,aput,Qm,QH,Qg,ty,↓reduceIte,Nat.reduceEqDiff,Nat.reduceAdd,Nat.reduceSub,Nat.reduceMul,Int.reduceLT,Int.reduceLE,Int.reduceNeg,Int.reduceToNat,reduceCtorEq,Nat.reduceBEq,Nat.reduceBNe,Qk,Qe,Value.cells,am,mm,keep, f_, fo_, aint, lv, hcv]
      try (refine hK_ _ _ ?_; clear hK_ K_; repeat first | refine QL ?_ | refine QM ?_)
      have hn0 : (0 : Int) ≤ (nB page : Int) := by omega
      have hm : ∀ (ρ : Operand → Value) (x y : Operand), ρ x = .int .i64 (nB page : Int) → ρ y = .int .i64 (nB page : Int) → anew Tryd.prog ρ (.makeSlice 70 x y) = some (flR (List.replicate (nB page) rz), fun g => .slice (some ⟨g, 0, none⟩) (nB page) 34) := fun ρ x y hx hy => by
        rw [anew_ms (size := 34) (bytes := 48) (z := (rcx rz).toArray) (by kernel_rfl) hx hy (by omega) (by omega) (by omega) (by omega) rfl, Int.toNat_natCast, zerosR _ h6]
      have hm1 := hm (aeval [(18, .int .i64 (nB page : Int)), (5, .int .i64 (nB page : Int)), (17, .int .i64 (nB page : Int)), (16, U64 (page.getD 0 0).toUInt64), (15, .pointer (some ⟨g, 0, none⟩)), (4, .pointer (some ⟨g, 0, none⟩)), (14, .pointer (some ⟨g, 0, none⟩)), (13, v), (12, .bool false), (11, .int .i64 (page.length : Int)), (10, v), (3, .int .i64 0), (2, .slice none 0 0), (0, v)]) (.tmp 18) (.tmp 18) rfl rfl
      iterate 1 ((repeat first | refine Qo ?_ | refine Qn ?_); (first | (refine QK (by kernel_rfl) ?_; intro K_ hK_; simp -implicitDefEqProofs (disch := (try simp only [sl]); try omega) only [sm,QJ,Qj,Qi,Qq,QC,bd,look,aput,ty,↓reduceIte,Nat.reduceEqDiff,Nat.reduceAdd,Nat.reduceSub,Nat.reduceMul,Int.reduceLT,Int.reduceLE,Int.reduceNeg,Int.reduceToNat,reduceCtorEq,Nat.reduceBEq,Nat.reduceBNe,Qk,Qe,Value.cells,am,mm,keep, f_, fo_, aint, lv, hm1]; refine hK_ _ _ ?_; clear hK_ K_; repeat first | refine QL ?_ | refine QM ?_)))
      first | refine AWp.snap8 N_ ?_ | refine AWp.snap7 N_ ?_ | refine AWp.snap6 N_ ?_ | refine AWp.snap5 N_ ?_ | refine AWp.snap4 N_ ?_ | refine AWp.snap3 N_ ?_ | refine AWp.snap2 N_ ?_ | refine AWp.snap1 N_ ?_
      clear fo_; have fo_ := f_; clear f_ N_; intro H3 xH3 lH3 N_
      have f_ := N_.has
      simp only [Has] at f_
      have hgl : g ≠ H2.length := by have := i2.lt; omega
      have i3 := i2.mono xH3
      have q3 := f_.1.2.1
      have x3 : Ext H H3 := N_.ext
      have hgb : H.length ≤ H2.length := by have := i2.lt; omega
      have lm : alen Tryd.prog 70 (.slice (some ⟨H2.length, 0, none⟩) (nB page) 34) = some (.int .i64 (nB page : Int)) := by rw [alen_slice, if_pos (by simp only [ty])]
      generalize H2.length = gl at *
      iterate 1 ((repeat first | refine Qo ?_ | refine Qn ?_); (first | (refine QK (by kernel_rfl) ?_; intro K_ hK_; simp -implicitDefEqProofs (disch := (try simp only [sl]); try omega) only [sm,QJ,Qj,Qi,Qq,QC,bd,look,aput,ty,↓reduceIte,Nat.reduceEqDiff,Nat.reduceAdd,Nat.reduceSub,Nat.reduceMul,Int.reduceLT,Int.reduceLE,Int.reduceNeg,Int.reduceToNat,reduceCtorEq,Nat.reduceBEq,Nat.reduceBNe,Qk,Qe,Value.cells,am,mm,keep, f_, fo_, aint, lv, lm]; refine hK_ _ _ ?_; clear hK_ K_; repeat first | refine QL ?_ | refine QM ?_)))
      repeat first | refine Qo ?_ | refine Qn ?_
      refine awp_forK [4, 5, 6, 21] (fun x : Nat × AH => [(22, I64 x.1)]) (fun x : Nat × AH => x.2) (fun x : Nat × AH => x.1 ≤ nB page ∧ RdI H.length x.2 g ⟨page.drop (1 + 37 * x.1), 0⟩ ∧ x.2[gl]? = some (.own (flR (flI page (nB page) x.1))) ∧ Ext H x.2 ∧ (∀ j, j < x.1 → okP (chunk page j))) (fun x : Nat × AH => nB page - x.1) ((0, H3)) (⟨Nat.zero_le _, i3, q3, x3, fun j h => by omega⟩) (by repeat first | exact Forgets.nil | refine Forgets.cons (by first | (simp only [look, ↓reduceIte, Nat.reduceEqDiff]; done) | (simp only [look, ↓reduceIte, Nat.reduceEqDiff]; rfl) | simp [look]) ?_) rfl ?_
      rintro ⟨i, H4⟩ ⟨hi, i4, q4, x4, hok⟩
      simp only [] at hi i4 q4 x4 hok ⊢
      clear f_ fo_ N_
      have N_ : Now H H4 [(gl, flR (flI page (nB page) i))] := ⟨x4, ⟨got_lt q4, q4, AH.cells_own q4⟩, trivial⟩
      have f_ := N_.has
      simp only [Has] at f_
      have fo_ := True.intro
      by_cases hlt : i < nB page
      · have hii : IntKind.i64.wrap ((i : Int) + 1) = (i : Int) + 1 := wi64 _ (by omega) (by omega)
        iterate 1 ((repeat first | refine Qo ?_ | refine Qn ?_); (first | (refine QK (by kernel_rfl) ?_; intro K_ hK_; simp -implicitDefEqProofs (disch := (try simp only [sl]); try omega) only [sm,QJ,Qj,Qi,Qq,QC,bd,look,aput,QI,abin,anil,ty,↓reduceIte,Nat.reduceEqDiff,Nat.reduceAdd,Nat.reduceSub,Nat.reduceMul,Int.reduceLT,Int.reduceLE,Int.reduceNeg,Int.reduceToNat,reduceCtorEq,Nat.reduceBEq,Nat.reduceBNe,Qk,Qe,Value.cells,am,mm,keep, f_, fo_, aint, lv, lm, hlt]; refine hK_ _ _ ?_; clear hK_ K_; repeat first | refine QL ?_ | refine QM ?_)))
        repeat first | refine Qo ?_ | refine Qn ?_
        refine awp_if true rfl (by simp only [aeval_tmp, look, ↓reduceIte, Nat.reduceEqDiff]; try rfl) (fun _ => ?_) (fun h => absurd h (by decide))
        iterate 2 ((repeat first | refine Qo ?_ | refine Qn ?_); (first | (refine QK (by kernel_rfl) ?_; intro K_ hK_; simp -implicitDefEqProofs (disch := (try simp only [sl]); try omega) only [sm,QJ,Qj,Qi,Qq,QC,bd,look,aput,Qm,Qh,ty,↓reduceIte,Nat.reduceEqDiff,Nat.reduceAdd,Nat.reduceSub,Nat.reduceMul,Int.reduceLT,Int.reduceLE,Int.reduceNeg,Int.reduceToNat,reduceCtorEq,Nat.reduceBEq,Nat.reduceBNe,Qk,Qe,Value.cells,am,mm,keep, f_, fo_, aint, lv, lm]; refine hK_ _ _ ?_; clear hK_ K_; repeat first | refine QL ?_ | refine QM ?_) | (refine awp_skip ?_; repeat first | refine QL ?_ | refine QM ?_)))
        (repeat first | refine Qo ?_ | refine Qn ?_); refine QK (by kernel_rfl) ?_; intro K_ hK_; simp -implicitDefEqProofs (disch := (try simp only [sl]); try omega) only [sm,QJ,Qj,Qi,Qq,QC,bd,look,aput,Qm,Qh,ty,↓reduceIte,Nat.reduceEqDiff,Nat.reduceAdd,Nat.reduceSub,Nat.reduceMul,Int.reduceLT,Int.reduceLE,Int.reduceNeg,Int.reduceToNat,reduceCtorEq,Nat.reduceBEq,Nat.reduceBNe,Qk,Qe,Value.cells,am,mm,keep, f_, fo_, aint, lv, lm]
        refine ACalls.mono (rdbytes_calls g 37 _ H4 H.length hg i4 (by simp only [List.length_drop]; omega) (by decide) (by decide)) ?_
        rintro u H5 ⟨i5, b5, o5⟩
        rw [show (37 : Int).toNat = 37 from rfl, (rd_chunk hl i (by omega)).2] at i5
        rw [show (37 : Int).toNat = 37 from rfl, (rd_chunk hl i (by omega)).1] at o5
        replace N_ := N_.but b5 (by omega) (by repeat first | exact List.forall_mem_nil _ | refine List.forall_mem_cons.2 ⟨by simp only []; omega, ?_⟩)
        clear fo_; have fo_ := f_; clear f_
        have f_ := N_.has
        simp only [Has] at f_
        try simp -implicitDefEqProofs (disch := (try simp only [sl]); try omega) only [sm,QJ,Qj,Qi,Qq,QC,bd,look,aput,Qm,Qh,ty,↓reduceIte,Nat.reduceEqDiff,Nat.reduceAdd,Nat.reduceSub,Nat.reduceMul,Int.reduceLT,Int.reduceLE,Int.reduceNeg,Int.reduceToNat,reduceCtorEq,Nat.reduceBEq,Nat.reduceBNe,Qk,Qe,Value.cells,am,mm,keep, f_, fo_, aint, lv, lm]
        try (refine hK_ _ _ ?_; clear hK_ K_; repeat first | refine QL ?_ | refine QM ?_)
        refine ACalls.mono (nsparse_calls u _ H5 o5.sl) ?_
        rintro _ H6 ⟨rfl, e6⟩
        replace N_ := N_.grow e6
        clear fo_; have fo_ := f_; clear f_
        have f_ := N_.has
        simp only [Has] at f_
        have hx := prs_wf (chunk page i)
        have xl := rcx_length hx
        have xc := rcx_cellv (prs (chunk page i))
        have xt := rcx_take hx
        have xo := rcx_ovr rz_wf hx
        have zl := rcx_length rz_wf
        have zRx : [Value.int .i64 0, Value.int .u32 0, Value.int .u8 0, Value.int .u8 0, Value.int .u8 0, Value.int .u8 0, Value.int .u8 0, Value.int .u8 0, Value.int .u8 0, Value.int .u8 0, Value.int .u8 0, Value.int .u8 0, Value.int .u8 0, Value.int .u8 0, Value.int .u8 0, Value.int .u8 0, Value.int .u8 0, Value.int .u8 0, Value.int .u8 0, Value.int .u8 0, Value.int .u8 0, Value.int .u8 0, Value.int .u8 0, Value.int .u8 0, Value.int .u8 0, Value.int .u8 0, Value.int .u8 0, Value.int .u8 0, Value.int .u8 0, Value.int .u8 0, Value.int .u8 0, Value.int .u8 0, Value.int .u8 0, Value.int .u8 0] = rcx rz := rfl
        try simp -implicitDefEqProofs (disch := (try simp only [sl]); try omega) only [sm,QJ,Qj,Qi,Qq,QC,bd,look,aput,Qm,Qh,ty,↓reduceIte,Nat.reduceEqDiff,Nat.reduceAdd,Nat.reduceSub,Nat.reduceMul,Int.reduceLT,Int.reduceLE,Int.reduceNeg,Int.reduceToNat,reduceCtorEq,Nat.reduceBEq,Nat.reduceBNe,Qk,Qe,Value.cells,am,mm,keep, f_, fo_, aint, lv, lm, xl, xc, xt, xo, zl, zRx]
        try (refine hK_ _ _ ?_; clear hK_ K_; repeat first | refine QL ?_ | refine QM ?_)
        first | refine AWp.snap8 N_ ?_ | refine AWp.snap7 N_ ?_ | refine AWp.snap6 N_ ?_ | refine AWp.snap5 N_ ?_ | refine AWp.snap4 N_ ?_ | refine AWp.snap3 N_ ?_ | refine AWp.snap2 N_ ?_ | refine AWp.snap1 N_ ?_
        clear fo_; have fo_ := f_; clear f_ N_; intro H7 xH7 lH7 N_
        have f_ := N_.has
        simp only [Has] at f_
        have i7 := (i5.mono e6).mono xH7
        by_cases hp : okP (chunk page i)
        · have hE : pzE (chunk page i) = 0 := by rw [pzE, if_pos hp]
          have h00 : ((0 : Int) != 0) = false := rfl
          iterate 1 ((repeat first | refine Qo ?_ | refine Qn ?_); (first | (refine QK (by kernel_rfl) ?_; intro K_ hK_; simp -implicitDefEqProofs (disch := (try simp only [sl]); try omega) only [sm,QJ,Qj,Qi,Qq,QC,bd,look,aput,QI,abin,anil,ty,↓reduceIte,Nat.reduceEqDiff,Nat.reduceAdd,Nat.reduceSub,Nat.reduceMul,Int.reduceLT,Int.reduceLE,Int.reduceNeg,Int.reduceToNat,reduceCtorEq,Nat.reduceBEq,Nat.reduceBNe,Qk,Qe,Value.cells,am,mm,keep, f_, fo_, aint, lv, lm, xl, xc, xt, xo, zl, zRx, hE, h00]; refine hK_ _ _ ?_; clear hK_ K_; repeat first | refine QL ?_ | refine QM ?_)))
          repeat first | refine Qo ?_ | refine Qn ?_
          refine awp_if false rfl (by simp only [aeval_tmp, look, ↓reduceIte, Nat.reduceEqDiff]; try rfl) (fun h => absurd h (by decide)) (fun _ => ?_)
          have hfl := flI_length page (nB page) i (by omega)
          have hwl := flI_wf page (nB page) i
          have hfr := flR_length hwl
          rw [hfl] at hfr
          have q7 := f_.2.1.2.1
          have hm7 : i * 34 + 34 ≤ nB page * 34 := by omega
          have hcp : acopy Tryd.prog (H7 ++ [ABlk.own (rcx (prs (chunk page i)))]) 70 70 (.slice (some ⟨gl, i * 34, none⟩) (nB page - i) 34) (.slice (some ⟨H7.length, 0, none⟩) 1 34) = _ := copy1 (bytes := 48) (by simp only [ty]) (by simp only [ty]) (gpush _ _) xl xc (Ext.push _ _ _ _ q7) (by omega) (by rw [hfr]; exact hm7) (by decide)
          have hst := flG34 (flI page (nB page) i) hwl i (by omega) (prs (chunk page i)) hx
          rw [hst, flI_set page (nB page) i hlt] at hcp
          have hgl7 : gl < H7.length := f_.2.1.1
          have hle : i ≤ nB page := hi
          obtain ⟨H8, hH8⟩ : ∃ H8, H8 = (H7 ++ [ABlk.own (rcx (prs (chunk page i)))]).set gl (.own (flR (flI page (nB page) (i + 1)))) := ⟨_, rfl⟩
          rw [← hH8] at hcp
          have hlp : gl < (H7 ++ [ABlk.own (rcx (prs (chunk page i)))]).length := by rw [List.length_append]; omega
          have i8 : RdI H.length H8 g ⟨page.drop (1 + 37 * (i + 1)), 0⟩ := by rw [hH8]; exact (i7.mono (Ext.push _ _)).but hgl hgb (set_other _ gl _)
          have q8 : H8[gl]? = some (.own (flR (flI page (nB page) (i + 1)))) := by rw [hH8]; exact gset _ _ _ hlp
          have x8 : Ext H H8 := by rw [hH8]; exact (N_.ext.pushed _).set _ hgb
          iterate 3 ((repeat first | refine Qo ?_ | refine Qn ?_); (first | ((first | refine awp_region_drawK (id := 12) [(0, []), (1, []), (2, []), (3, []), (4, []), (5, [])] mixed (by kernel_rfl) ?_ | refine QK (by kernel_rfl) ?_); intro K_ hK_; simp -implicitDefEqProofs (disch := (try simp only [sl]); try omega) only [sm,QJ,aSel,Qu,Qv,Qw,Qx,Qy,Qj,Qi,Qq,QC,Qz,bd,QF,look,aput,Qm,QI,abin,anil,QA,Qr,loN,hiN,ty,↓reduceIte,Nat.reduceEqDiff,Nat.reduceAdd,Nat.reduceSub,Nat.reduceMul,Int.reduceLT,Int.reduceLE,Int.reduceNeg,Int.reduceToNat,reduceCtorEq,Nat.reduceBEq,Nat.reduceBNe,Qk,Qe,Value.cells,am,mm,keep, f_, fo_, aint, lv, lm, xl, xc, xt, xo, zl, zRx, hcp, bda, hlt, hle, hii]; refine hK_ _ _ ?_; clear hK_ K_; repeat first | refine QL ?_ | refine QM ?_) | (refine awp_skip ?_; repeat first | refine QL ?_ | refine QM ?_)))
          refine ⟨(i + 1, H8), ⟨by simp only []; omega, i8, q8, x8, fun j hj => by simp only [] at hj; rcases Nat.lt_or_ge j i with h1 | h1; exact hok j h1; obtain rfl : j = i := (by omega); exact hp⟩, (by repeat first | exact Forgets.nil | refine Forgets.cons (by first | (simp only [look, ↓reduceIte, Nat.reduceEqDiff]; done) | (simp only [look, ↓reduceIte, Nat.reduceEqDiff]; rfl) | simp [look, hii]) ?_), ?_⟩
          first | omega | exact ⟨rfl, by omega⟩ | exact ⟨rfl, by simp only []; omega⟩ | (simp only []; omega)
        · have hE : pzE (chunk page i) = 1 := by rw [pzE, if_neg hp]
          have h10 : ((1 : Int) != 0) = true := rfl
          have hn : ¬ okG page := fun h => hp (h.2.2.1 i hlt)
          iterate 1 ((repeat first | refine Qo ?_ | refine Qn ?_); (first | (refine QK (by kernel_rfl) ?_; intro K_ hK_; simp -implicitDefEqProofs (disch := (try simp only [sl]); try omega) only [sm,QJ,Qj,Qi,Qq,QC,bd,look,aput,QI,abin,anil,ty,↓reduceIte,Nat.reduceEqDiff,Nat.reduceAdd,Nat.reduceSub,Nat.reduceMul,Int.reduceLT,Int.reduceLE,Int.reduceNeg,Int.reduceToNat,reduceCtorEq,Nat.reduceBEq,Nat.reduceBNe,Qk,Qe,Value.cells,am,mm,keep, f_, fo_, aint, lv, lm, xl, xc, xt, xo, zl, zRx, hE, h10]; refine hK_ _ _ ?_; clear hK_ K_; repeat first | refine QL ?_ | refine QM ?_)))
          repeat first | refine Qo ?_ | refine Qn ?_
          refine awp_if true rfl (by simp only [aeval_tmp, look, ↓reduceIte, Nat.reduceEqDiff]; try rfl) (fun _ => ?_) (fun h => absurd h (by decide))
          iterate 1 ((repeat first | refine Qo ?_ | refine Qn ?_); (first | (refine QK (by kernel_rfl) ?_; intro K_ hK_; simp -implicitDefEqProofs (disch := (try simp only [sl]); try omega) only [sm,QJ,Qj,Qi,Qq,QC,bd,look,aput,ty,↓reduceIte,Nat.reduceEqDiff,Nat.reduceAdd,Nat.reduceSub,Nat.reduceMul,Int.reduceLT,Int.reduceLE,Int.reduceNeg,Int.reduceToNat,reduceCtorEq,Nat.reduceBEq,Nat.reduceBNe,Qk,Qe,Value.cells,am,mm,keep, f_, fo_, aint, lv, lm, xl, xc, xt, xo, zl, zRx]; refine hK_ _ _ ?_; clear hK_ K_; repeat first | refine QL ?_ | refine QM ?_)))
          first | refine awp_ret ?_ | skip
          show ∃ v, aresults Tryd.prog Tryd.f76 _ _ = some v ∧ _
          rw [aresults_2 (r := .tmp 2) (s := .tmp 3) (by kernel_rfl)]
          simp -implicitDefEqProofs (disch := (try simp only [sl]); try omega) only [aresult, Option.some.injEq, exists_eq_left', sm,Qj,Qi,Qq,QC,Qz,bd,QF,look,aput,QB,Qf,QA,ty,↓reduceIte,Nat.reduceEqDiff,Nat.reduceAdd,Nat.reduceSub,Nat.reduceMul,Int.reduceLT,Int.reduceLE,Int.reduceNeg,Int.reduceToNat,reduceCtorEq,Nat.reduceBEq,Nat.reduceBNe,Qk,Qe,Value.cells,am,mm,keep, f_, fo_, aint, lv, lm, xl, xc, xt, xo, zl, zRx]
          rw [alE, alL, if_pos hl, if_neg hn, if_neg hn]
          exact ⟨⟨_, rfl, .inl ⟨rfl, rfl, rfl⟩⟩, N_.ext⟩
      obtain rfl : i = nB page := by omega
      rw [flI_end] at q4 f_
      iterate 1 ((repeat first | refine Qo ?_ | refine Qn ?_); (first | (refine QK (by kernel_rfl) ?_; intro K_ hK_; simp -implicitDefEqProofs (disch := (try simp only [sl]); try omega) only [sm,QJ,Qj,Qi,Qq,QC,bd,look,aput,QI,abin,anil,ty,↓reduceIte,Nat.reduceEqDiff,Nat.reduceAdd,Nat.reduceSub,Nat.reduceMul,Int.reduceLT,Int.reduceLE,Int.reduceNeg,Int.reduceToNat,reduceCtorEq,Nat.reduceBEq,Nat.reduceBNe,Qk,Qe,Value.cells,am,mm,keep, f_, fo_, aint, lv, lm, hlt]; refine hK_ _ _ ?_; clear hK_ K_; repeat first | refine QL ?_ | refine QM ?_)))
      repeat first | refine Qo ?_ | refine Qn ?_
      refine awp_if false rfl (by simp only [aeval_tmp, look, ↓reduceIte, Nat.reduceEqDiff]; try rfl) (fun h => absurd h (by decide)) (fun _ => ?_)
      by_cases h0 : nB page = 0
      · have hz : ((nB page : Int) == 0) = true := by rw [h0]; rfl
        have hn : ¬ okG page := fun h => by have := h.2.1.1; omega
        iterate 1 ((repeat first | refine Qo ?_ | refine Qn ?_); (first | (refine QK (by kernel_rfl) ?_; intro K_ hK_; simp -implicitDefEqProofs (disch := (try simp only [sl]); try omega) only [sm,QJ,Qj,Qi,Qq,QC,bd,look,aput,Qm,QI,abin,anil,ty,↓reduceIte,Nat.reduceEqDiff,Nat.reduceAdd,Nat.reduceSub,Nat.reduceMul,Int.reduceLT,Int.reduceLE,Int.reduceNeg,Int.reduceToNat,reduceCtorEq,Nat.reduceBEq,Nat.reduceBNe,Qk,Qe,Value.cells,am,mm,keep, f_, fo_, aint, lv, lm, hz]; refine hK_ _ _ ?_; clear hK_ K_; repeat first | refine QL ?_ | refine QM ?_) | (refine awp_exit ?_; (repeat first | refine aThen_exit ?_ | refine aIn_out rfl ?_); refine aIn_here ?_; repeat first | refine QL ?_ | refine QM ?_)))
        (repeat first | refine Qo ?_ | refine Qn ?_); refine QK (by kernel_rfl) ?_; intro K_ hK_; simp -implicitDefEqProofs (disch := (try simp only [sl]); try omega) only [sm,QJ,Qj,Qi,Qq,QC,bd,look,aput,Qm,QI,abin,anil,ty,↓reduceIte,Nat.reduceEqDiff,Nat.reduceAdd,Nat.reduceSub,Nat.reduceMul,Int.reduceLT,Int.reduceLE,Int.reduceNeg,Int.reduceToNat,reduceCtorEq,Nat.reduceBEq,Nat.reduceBNe,Qk,Qe,Value.cells,am,mm,keep, f_, fo_, aint, lv, lm, hz]
        try simp -implicitDefEqProofs (disch := (try simp only [sl]); try omega) only [sm,QJ,Qj,Qi,Qq,QC,bd,look,aput,Qm,QI,abin,anil,ty,↓reduceIte,Nat.reduceEqDiff,Nat.reduceAdd,Nat.reduceSub,Nat.reduceMul,Int.reduceLT,Int.reduceLE,Int.reduceNeg,Int.reduceToNat,reduceCtorEq,Nat.reduceBEq,Nat.reduceBNe,Qk,Qe,Value.cells,am,mm,keep, f_, fo_, aint, lv, lm]
        try (refine hK_ _ _ ?_; clear hK_ K_; repeat first | refine QL ?_ | refine QM ?_)
        repeat first | refine Qo ?_ | refine Qn ?_
        refine awp_if true rfl (by simp only [aeval_tmp, look, ↓reduceIte, Nat.reduceEqDiff]; try rfl) (fun _ => ?_) (fun h => absurd h (by decide))
        iterate 1 ((repeat first | refine Qo ?_ | refine Qn ?_); (first | (refine QK (by kernel_rfl) ?_; intro K_ hK_; simp -implicitDefEqProofs (disch := (try simp only [sl]); try omega) only [sm,QJ,Qj,Qi,Qq,QC,bd,look,aput,ty,↓reduceIte,Nat.reduceEqDiff,Nat.reduceAdd,Nat.reduceSub,Nat.reduceMul,Int.reduceLT,Int.reduceLE,Int.reduceNeg,Int.reduceToNat,reduceCtorEq,Nat.reduceBEq,Nat.reduceBNe,Qk,Qe,Value.cells,am,mm,keep, f_, fo_, aint, lv, lm]; refine hK_ _ _ ?_; clear hK_ K_; repeat first | refine QL ?_ | refine QM ?_)))
        first | refine awp_ret ?_ | skip
        show ∃ v, aresults Tryd.prog Tryd.f76 _ _ = some v ∧ _
        rw [aresults_2 (r := .tmp 2) (s := .tmp 3) (by kernel_rfl)]
        simp -implicitDefEqProofs (disch := (try simp only [sl]); try omega) only [aresult, Option.some.injEq, exists_eq_left', sm,Qj,Qi,Qq,QC,Qz,bd,QF,look,aput,QB,Qf,QA,ty,↓reduceIte,Nat.reduceEqDiff,Nat.reduceAdd,Nat.reduceSub,Nat.reduceMul,Int.reduceLT,Int.reduceLE,Int.reduceNeg,Int.reduceToNat,reduceCtorEq,Nat.reduceBEq,Nat.reduceBNe,Qk,Qe,Value.cells,am,mm,keep, f_, fo_, aint, lv, lm]
        rw [alE, alL, if_pos hl, if_neg hn, if_neg hn]
        exact ⟨⟨_, rfl, .inl ⟨rfl, rfl, rfl⟩⟩, x4⟩
      · have hz : ((nB page : Int) == 0) = false := by rw [beq_eq_false_iff_ne]; omega
        iterate 1 ((repeat first | refine Qo ?_ | refine Qn ?_); (first | (refine QK (by kernel_rfl) ?_; intro K_ hK_; simp -implicitDefEqProofs (disch := (try simp only [sl]); try omega) only [sm,QJ,Qj,Qi,Qq,QC,bd,look,aput,Qm,QI,abin,anil,ty,↓reduceIte,Nat.reduceEqDiff,Nat.reduceAdd,Nat.reduceSub,Nat.reduceMul,Int.reduceLT,Int.reduceLE,Int.reduceNeg,Int.reduceToNat,reduceCtorEq,Nat.reduceBEq,Nat.reduceBNe,Qk,Qe,Value.cells,am,mm,keep, f_, fo_, aint, lv, lm, hz]; refine hK_ _ _ ?_; clear hK_ K_; repeat first | refine QL ?_ | refine QM ?_) | (refine awp_exit ?_; (repeat first | refine aThen_exit ?_ | refine aIn_out rfl ?_); refine aIn_here ?_; repeat first | refine QL ?_ | refine QM ?_)))
        (repeat first | refine Qo ?_ | refine Qn ?_); refine QK (by kernel_rfl) ?_; intro K_ hK_; simp -implicitDefEqProofs (disch := (try simp only [sl]); try omega) only [sm,QJ,Qj,Qi,Qq,QC,bd,look,aput,Qm,QI,abin,anil,ty,↓reduceIte,Nat.reduceEqDiff,Nat.reduceAdd,Nat.reduceSub,Nat.reduceMul,Int.reduceLT,Int.reduceLE,Int.reduceNeg,Int.reduceToNat,reduceCtorEq,Nat.reduceBEq,Nat.reduceBNe,Qk,Qe,Value.cells,am,mm,keep, f_, fo_, aint, lv, lm, hz]
        refine ACalls.mono (rdrest_calls g _ H4 H.length hg i4 (by simp only [List.length_drop]; omega)) ?_
        rintro _ H5 ⟨rfl, i5, b5⟩
        have x5 : Ext H H5 := fun p y hy => b5 p y (by have := got_lt hy; omega) (x4 _ _ hy)
        have q5 := b5 _ _ (fun e => hgl e.symm) q4
        by_cases hzr : zer (page.drop (1 + 37 * nB page)) = true
        · have hr : (Rd.rest ⟨page.drop (1 + 37 * nB page), 0⟩).e = 0 := by rw [Rd.rest, if_pos hzr]
          have hG : okG page := ⟨hl, ⟨by omega, h6⟩, hok, hzr⟩
          have h00 : ((0 : Int) != 0) = false := rfl
          rw [hr]
          try simp -implicitDefEqProofs (disch := (try simp only [sl]); try omega) only [sm,QJ,Qj,Qi,Qq,QC,bd,look,aput,Qm,QI,abin,anil,ty,↓reduceIte,Nat.reduceEqDiff,Nat.reduceAdd,Nat.reduceSub,Nat.reduceMul,Int.reduceLT,Int.reduceLE,Int.reduceNeg,Int.reduceToNat,reduceCtorEq,Nat.reduceBEq,Nat.reduceBNe,Qk,Qe,Value.cells,am,mm,keep, f_, fo_, aint, lv, lm, h00]
          try (refine hK_ _ _ ?_; clear hK_ K_; repeat first | refine QL ?_ | refine QM ?_)
          repeat first | refine Qo ?_ | refine Qn ?_
          refine awp_if false rfl (by simp only [aeval_tmp, look, ↓reduceIte, Nat.reduceEqDiff]; try rfl) (fun h => absurd h (by decide)) (fun _ => ?_)
          iterate 2 ((repeat first | refine Qo ?_ | refine Qn ?_); (first | (refine QK (by kernel_rfl) ?_; intro K_ hK_; simp -implicitDefEqProofs (disch := (try simp only [sl]); try omega) only [sm,QJ,Qj,Qi,Qq,QC,bd,look,aput,ty,↓reduceIte,Nat.reduceEqDiff,Nat.reduceAdd,Nat.reduceSub,Nat.reduceMul,Int.reduceLT,Int.reduceLE,Int.reduceNeg,Int.reduceToNat,reduceCtorEq,Nat.reduceBEq,Nat.reduceBNe,Qk,Qe,Value.cells,am,mm,keep, f_, fo_, aint, lv, lm]; refine hK_ _ _ ?_; clear hK_ K_; repeat first | refine QL ?_ | refine QM ?_) | (refine awp_skip ?_; repeat first | refine QL ?_ | refine QM ?_)))
          first | refine awp_ret ?_ | skip
          show ∃ v, aresults Tryd.prog Tryd.f76 _ _ = some v ∧ _
          rw [aresults_2 (r := .tmp 2) (s := .tmp 3) (by kernel_rfl)]
          simp -implicitDefEqProofs (disch := (try simp only [sl]); try omega) only [aresult, Option.some.injEq, exists_eq_left', sm,Qj,Qi,Qq,QC,Qz,bd,QF,look,aput,QB,Qf,QA,ty,↓reduceIte,Nat.reduceEqDiff,Nat.reduceAdd,Nat.reduceSub,Nat.reduceMul,Int.reduceLT,Int.reduceLE,Int.reduceNeg,Int.reduceToNat,reduceCtorEq,Nat.reduceBEq,Nat.reduceBNe,Qk,Qe,Value.cells,am,mm,keep, f_, fo_, aint, lv, lm]
          rw [alE, alL, if_pos hl, if_pos hG, if_pos hG]
          exact ⟨⟨_, rfl, .inr ⟨gl, by rw [lsN_length], q5, hgb⟩⟩, x5⟩
        · have hr : (Rd.rest ⟨page.drop (1 + 37 * nB page), 0⟩).e = 3 := by rw [Rd.rest, if_neg hzr, Rd.fails, if_pos rfl]
          have hn : ¬ okG page := fun h => hzr h.2.2.2
          have h30 : ((3 : Int) != 0) = true := rfl
          rw [hr]
          try simp -implicitDefEqProofs (disch := (try simp only [sl]); try omega) only [sm,QJ,Qj,Qi,Qq,QC,bd,look,aput,Qm,QI,abin,anil,ty,↓reduceIte,Nat.reduceEqDiff,Nat.reduceAdd,Nat.reduceSub,Nat.reduceMul,Int.reduceLT,Int.reduceLE,Int.reduceNeg,Int.reduceToNat,reduceCtorEq,Nat.reduceBEq,Nat.reduceBNe,Qk,Qe,Value.cells,am,mm,keep, f_, fo_, aint, lv, lm, h30]
          try (refine hK_ _ _ ?_; clear hK_ K_; repeat first | refine QL ?_ | refine QM ?_)
          repeat first | refine Qo ?_ | refine Qn ?_
          refine awp_if true rfl (by simp only [aeval_tmp, look, ↓reduceIte, Nat.reduceEqDiff]; try rfl) (fun _ => ?_) (fun h => absurd h (by decide))
          iterate 1 ((repeat first | refine Qo ?_ | refine Qn ?_); (first | (refine QK (by kernel_rfl) ?_; intro K_ hK_; simp -implicitDefEqProofs (disch := (try simp only [sl]); try omega) only [sm,QJ,Qj,Qi,Qq,QC,bd,look,aput,ty,↓reduceIte,Nat.reduceEqDiff,Nat.reduceAdd,Nat.reduceSub,Nat.reduceMul,Int.reduceLT,Int.reduceLE,Int.reduceNeg,Int.reduceToNat,reduceCtorEq,Nat.reduceBEq,Nat.reduceBNe,Qk,Qe,Value.cells,am,mm,keep, f_, fo_, aint, lv, lm]; refine hK_ _ _ ?_; clear hK_ K_; repeat first | refine QL ?_ | refine QM ?_)))
          first | refine awp_ret ?_ | skip
          show ∃ v, aresults Tryd.prog Tryd.f76 _ _ = some v ∧ _
          rw [aresults_2 (r := .tmp 2) (s := .tmp 3) (by kernel_rfl)]
          simp -implicitDefEqProofs (disch := (try simp only [sl]); try omega) only [aresult, Option.some.injEq, exists_eq_left', sm,Qj,Qi,Qq,QC,Qz,bd,QF,look,aput,QB,Qf,QA,ty,↓reduceIte,Nat.reduceEqDiff,Nat.reduceAdd,Nat.reduceSub,Nat.reduceMul,Int.reduceLT,Int.reduceLE,Int.reduceNeg,Int.reduceToNat,reduceCtorEq,Nat.reduceBEq,Nat.reduceBNe,Qk,Qe,Value.cells,am,mm,keep, f_, fo_, aint, lv, lm]
          rw [alE, alL, if_pos hl, if_neg hn, if_neg hn]
          exact ⟨⟨_, rfl, .inl ⟨rfl, rfl, rfl⟩⟩, x5⟩
    · rw [if_neg h6] at i2
      have hn : ¬ okG page := fun h => h6 h.2.1.2
      have hcv : IntKind.i64.wrap ((UInt64.toNat 0 : Nat) : Int) = 0 := rfl
      have hm : ∀ (ρ : Operand → Value) (x y : Operand), ρ x = .int .i64 0 → ρ y = .int .i64 0 → anew Tryd.prog ρ (.makeSlice 70 x y) = some ([], fun g => .slice (some ⟨g, 0, none⟩) 0 34) := fun ρ x y hx hy => by
        rw [anew_ms (size := 34) (bytes := 48) (z := (rcx rz).toArray) (by kernel_rfl) hx hy (by omega) (by omega) (by omega) (by omega) rfl, show Int.toNat 0 = 0 from rfl, zerosR0]
        rfl
      have hm1 := hm (aeval [(18, .int .i64 0), (5, .int .i64 0), (17, .int .i64 0), (16, U64 0), (15, .pointer (some ⟨g, 0, none⟩)), (4, .pointer (some ⟨g, 0, none⟩)), (14, .pointer (some ⟨g, 0, none⟩)), (13, v), (12, .bool false), (11, .int .i64 (page.length : Int)), (10, v), (3, .int .i64 0), (2, .slice none 0 0), (0, v)]) (.tmp 18) (.tmp 18) rfl rfl
      have h00 : ((0 : Int) == 0) = true := rfl
      rw [if_neg h6]
      try simp -implicitDefEqProofs (disch := (try simp only [sl]); try omega) only [sm,QJ,Qj,Qi,Qq,QC,Qz,bd,QF,look,aput,Qm,QH,Qg,ty,↓reduceIte,Nat.reduceEqDiff,Nat.reduceAdd,Nat.reduceSub,Nat.reduceMul,Int.reduceLT,Int.reduceLE,Int.reduceNeg,Int.reduceToNat,reduceCtorEq,Nat.reduceBEq,Nat.reduceBNe,Qk,Qe,Value.cells,am,mm,keep, f_, fo_, aint, lv, hcv]
      try (refine hK_ _ _ ?_; clear hK_ K_; repeat first | refine QL ?_ | refine QM ?_)
      iterate 1 ((repeat first | refine Qo ?_ | refine Qn ?_); (first | (refine QK (by kernel_rfl) ?_; intro K_ hK_; simp -implicitDefEqProofs (disch := (try simp only [sl]); try omega) only [sm,QJ,Qj,Qi,Qq,QC,bd,look,aput,ty,↓reduceIte,Nat.reduceEqDiff,Nat.reduceAdd,Nat.reduceSub,Nat.reduceMul,Int.reduceLT,Int.reduceLE,Int.reduceNeg,Int.reduceToNat,reduceCtorEq,Nat.reduceBEq,Nat.reduceBNe,Qk,Qe,Value.cells,am,mm,keep, f_, fo_, aint, lv, hm1]; refine hK_ _ _ ?_; clear hK_ K_; repeat first | refine QL ?_ | refine QM ?_)))
      first | refine AWp.snap8 N_ ?_ | refine AWp.snap7 N_ ?_ | refine AWp.snap6 N_ ?_ | refine AWp.snap5 N_ ?_ | refine AWp.snap4 N_ ?_ | refine AWp.snap3 N_ ?_ | refine AWp.snap2 N_ ?_ | refine AWp.snap1 N_ ?_
      clear fo_; have fo_ := f_; clear f_ N_; intro H3 xH3 lH3 N_
      have f_ := N_.has
      simp only [Has] at f_
      iterate 1 ((repeat first | refine Qo ?_ | refine Qn ?_); (first | (refine QK (by kernel_rfl) ?_; intro K_ hK_; simp -implicitDefEqProofs (disch := (try simp only [sl]); try omega) only [sm,QJ,Qj,Qi,Qq,QC,bd,look,aput,ty,↓reduceIte,Nat.reduceEqDiff,Nat.reduceAdd,Nat.reduceSub,Nat.reduceMul,Int.reduceLT,Int.reduceLE,Int.reduceNeg,Int.reduceToNat,reduceCtorEq,Nat.reduceBEq,Nat.reduceBNe,Qk,Qe,Value.cells,am,mm,keep, f_, fo_, aint, lv]; refine hK_ _ _ ?_; clear hK_ K_; repeat first | refine QL ?_ | refine QM ?_)))
      repeat first | refine Qo ?_ | refine Qn ?_
      refine awp_forK [4, 5, 6, 21] (fun x : Nat => [(22, I64 x)]) (fun x : Nat => H3) (fun x : Nat => x = 0) (fun x : Nat => 0) (0) (rfl) (by repeat first | exact Forgets.nil | refine Forgets.cons (by first | (simp only [look, ↓reduceIte, Nat.reduceEqDiff]; done) | (simp only [look, ↓reduceIte, Nat.reduceEqDiff]; rfl) | simp [look, hii]) ?_) rfl ?_
      rintro x rfl
      iterate 1 ((repeat first | refine Qo ?_ | refine Qn ?_); (first | (refine QK (by kernel_rfl) ?_; intro K_ hK_; simp -implicitDefEqProofs (disch := (try simp only [sl]); try omega) only [sm,QJ,Qj,Qi,Qq,QC,bd,look,aput,QI,abin,anil,ty,↓reduceIte,Nat.reduceEqDiff,Nat.reduceAdd,Nat.reduceSub,Nat.reduceMul,Int.reduceLT,Int.reduceLE,Int.reduceNeg,Int.reduceToNat,reduceCtorEq,Nat.reduceBEq,Nat.reduceBNe,Qk,Qe,Value.cells,am,mm,keep, f_, fo_, aint, lv]; refine hK_ _ _ ?_; clear hK_ K_; repeat first | refine QL ?_ | refine QM ?_)))
      repeat first | refine Qo ?_ | refine Qn ?_
      refine awp_if false rfl (by simp only [aeval_tmp, look, ↓reduceIte, Nat.reduceEqDiff]; try rfl) (fun h => absurd h (by decide)) (fun _ => ?_)
      iterate 1 ((repeat first | refine Qo ?_ | refine Qn ?_); (first | (refine QK (by kernel_rfl) ?_; intro K_ hK_; simp -implicitDefEqProofs (disch := (try simp only [sl]); try omega) only [sm,QJ,Qj,Qi,Qq,QC,bd,look,aput,Qm,QI,abin,anil,ty,↓reduceIte,Nat.reduceEqDiff,Nat.reduceAdd,Nat.reduceSub,Nat.reduceMul,Int.reduceLT,Int.reduceLE,Int.reduceNeg,Int.reduceToNat,reduceCtorEq,Nat.reduceBEq,Nat.reduceBNe,Qk,Qe,Value.cells,am,mm,keep, f_, fo_, aint, lv, h00]; refine hK_ _ _ ?_; clear hK_ K_; repeat first | refine QL ?_ | refine QM ?_) | (refine awp_exit ?_; (repeat first | refine aThen_exit ?_ | refine aIn_out rfl ?_); refine aIn_here ?_; repeat first | refine QL ?_ | refine QM ?_)))
      (repeat first | refine Qo ?_ | refine Qn ?_); refine QK (by kernel_rfl) ?_; intro K_ hK_; simp -implicitDefEqProofs (disch := (try simp only [sl]); try omega) only [sm,QJ,Qj,Qi,Qq,QC,bd,look,aput,Qm,QI,abin,anil,ty,↓reduceIte,Nat.reduceEqDiff,Nat.reduceAdd,Nat.reduceSub,Nat.reduceMul,Int.reduceLT,Int.reduceLE,Int.reduceNeg,Int.reduceToNat,reduceCtorEq,Nat.reduceBEq,Nat.reduceBNe,Qk,Qe,Value.cells,am,mm,keep, f_, fo_, aint, lv, h00]
      try simp -implicitDefEqProofs (disch := (try simp only [sl]); try omega) only [sm,QJ,Qj,Qi,Qq,QC,bd,look,aput,Qm,QI,abin,anil,ty,↓reduceIte,Nat.reduceEqDiff,Nat.reduceAdd,Nat.reduceSub,Nat.reduceMul,Int.reduceLT,Int.reduceLE,Int.reduceNeg,Int.reduceToNat,reduceCtorEq,Nat.reduceBEq,Nat.reduceBNe,Qk,Qe,Value.cells,am,mm,keep, f_, fo_, aint, lv]
      try (refine hK_ _ _ ?_; clear hK_ K_; repeat first | refine QL ?_ | refine QM ?_)
      repeat first | refine Qo ?_ | refine Qn ?_
      refine awp_if true rfl (by simp only [aeval_tmp, look, ↓reduceIte, Nat.reduceEqDiff]; try rfl) (fun _ => ?_) (fun h => absurd h (by decide))
      iterate 1 ((repeat first | refine Qo ?_ | refine Qn ?_); (first | (refine QK (by kernel_rfl) ?_; intro K_ hK_; simp -implicitDefEqProofs (disch := (try simp only [sl]); try omega) only [sm,QJ,Qj,Qi,Qq,QC,bd,look,aput,ty,↓reduceIte,Nat.reduceEqDiff,Nat.reduceAdd,Nat.reduceSub,Nat.reduceMul,Int.reduceLT,Int.reduceLE,Int.reduceNeg,Int.reduceToNat,reduceCtorEq,Nat.reduceBEq,Nat.reduceBNe,Qk,Qe,Value.cells,am,mm,keep, f_, fo_, aint, lv]; refine hK_ _ _ ?_; clear hK_ K_; repeat first | refine QL ?_ | refine QM ?_)))
      first | refine awp_ret ?_ | skip
      show ∃ v, aresults Tryd.prog Tryd.f76 _ _ = some v ∧ _
      rw [aresults_2 (r := .tmp 2) (s := .tmp 3) (by kernel_rfl)]
      simp -implicitDefEqProofs (disch := (try simp only [sl]); try omega) only [aresult, Option.some.injEq, exists_eq_left', sm,Qj,Qi,Qq,QC,Qz,bd,QF,look,aput,QB,Qf,QA,ty,↓reduceIte,Nat.reduceEqDiff,Nat.reduceAdd,Nat.reduceSub,Nat.reduceMul,Int.reduceLT,Int.reduceLE,Int.reduceNeg,Int.reduceToNat,reduceCtorEq,Nat.reduceBEq,Nat.reduceBNe,Qk,Qe,Value.cells,am,mm,keep, f_, fo_, aint, lv]
      rw [alE, alL, if_pos hl, if_neg hn, if_neg hn]
      exact ⟨⟨_, rfl, .inl ⟨rfl, rfl, rfl⟩⟩, N_.ext⟩
  · have hb : ((page.length : Int) != 256) = true := by rw [bne_iff_ne]; omega
    have hn : ¬ okG page := fun h => hl h.1
    iterate 1 ((repeat first | refine Qo ?_ | refine Qn ?_); (first | (refine QK (by kernel_rfl) ?_; intro K_ hK_; simp -implicitDefEqProofs (disch := (try simp only [sl]); try omega) only [sm,QJ,Qj,Qi,Qq,QC,bd,look,aput,QI,abin,anil,ty,↓reduceIte,Nat.reduceEqDiff,Nat.reduceAdd,Nat.reduceSub,Nat.reduceMul,Int.reduceLT,Int.reduceLE,Int.reduceNeg,Int.reduceToNat,reduceCtorEq,Nat.reduceBEq,Nat.reduceBNe,Qk,Qe,Value.cells,am,mm,keep, f_, fo_, aint, lv, hb]; refine hK_ _ _ ?_; clear hK_ K_; repeat first | refine QL ?_ | refine QM ?_)))
    repeat first | refine Qo ?_ | refine Qn ?_
    refine awp_if true rfl (by simp only [aeval_tmp, look, ↓reduceIte, Nat.reduceEqDiff]; try rfl) (fun _ => ?_) (fun h => absurd h (by decide))
    iterate 1 ((repeat first | refine Qo ?_ | refine Qn ?_); (first | (refine QK (by kernel_rfl) ?_; intro K_ hK_; simp -implicitDefEqProofs (disch := (try simp only [sl]); try omega) only [sm,QJ,Qj,Qi,Qq,QC,bd,look,aput,ty,↓reduceIte,Nat.reduceEqDiff,Nat.reduceAdd,Nat.reduceSub,Nat.reduceMul,Int.reduceLT,Int.reduceLE,Int.reduceNeg,Int.reduceToNat,reduceCtorEq,Nat.reduceBEq,Nat.reduceBNe,Qk,Qe,Value.cells,am,mm,keep, f_, fo_, aint, lv]; refine hK_ _ _ ?_; clear hK_ K_; repeat first | refine QL ?_ | refine QM ?_)))
    first | refine awp_ret ?_ | skip
    show ∃ v, aresults Tryd.prog Tryd.f76 _ _ = some v ∧ _
    rw [aresults_2 (r := .tmp 2) (s := .tmp 3) (by kernel_rfl)]
    simp -implicitDefEqProofs (disch := (try simp only [sl]); try omega) only [aresult, Option.some.injEq, exists_eq_left', sm,Qj,Qi,Qq,QC,Qz,bd,QF,look,aput,QB,Qf,QA,ty,↓reduceIte,Nat.reduceEqDiff,Nat.reduceAdd,Nat.reduceSub,Nat.reduceMul,Int.reduceLT,Int.reduceLE,Int.reduceNeg,Int.reduceToNat,reduceCtorEq,Nat.reduceBEq,Nat.reduceBNe,Qk,Qe,Value.cells,am,mm,keep, f_, fo_, aint, lv]
    rw [alE, alL, if_neg hl, if_neg hn]
    exact ⟨⟨_, rfl, .inl ⟨rfl, rfl, rfl⟩⟩, Ext.refl _⟩
end Go.Proofs.YtfhbieimffjjkaaDoor
