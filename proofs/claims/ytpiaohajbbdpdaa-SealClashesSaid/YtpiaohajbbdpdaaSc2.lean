/- seal's Clash: bytes.Equal, the entries of its map. -/
import Derived.Test.YtpiaohajbbdpdaaSc1
namespace Go.Proofs.Ytpiaohajbbdpdaa
open Go Go.RowKit
--hide
set_option linter.unusedSimpArgs false
set_option linter.unusedVariables false
set_option maxRecDepth 4000
/-- How a slice's bytes become a string. -/
theorem SL.cv {H : AH} {v : Value} {l : List UInt8} (h : SL H v (l.map U8)) : (v = .slice none 0 0 ∧ l = []) ∨ (∃ g o e, v = .slice (some ⟨g, o, .none⟩) 0 e ∧ l = []) ∨ ∃ g o e cs, v = .slice (some ⟨g, o, .none⟩) l.length e ∧ H.cells g = some cs ∧ o + l.length ≤ cs.length ∧ bytesOf ((cs.drop o).take l.length) = some l ∧ ¬ l.length = 0 := by
  by_cases hl : l = []
  · subst hl
    rcases h with ⟨h, _⟩ | ⟨g, o, e, h, _⟩
    · exact .inl ⟨h, rfl⟩
    · exact .inr (.inl ⟨g, o, e, h, rfl⟩)
  · have hp := List.length_pos_iff.2 hl
    rcases h with ⟨_, h⟩ | ⟨g, o, e, rfl, h⟩
    · exact absurd (List.map_eq_nil_iff.1 h) hl
    · obtain ⟨cs, h1, h2, h3, h4⟩ := SL.str (H := H) (g := g) (o := o) (e := e) (.inr ⟨g, o, e, rfl, h⟩) hp
      exact .inr (.inr ⟨g, o, e, cs, by rw [List.length_map], h1, h3, h4, by omega⟩)
theorem str_eq (a b : List UInt8) : ((⟨a.toArray⟩ : ByteArray).toList == (⟨b.toArray⟩ : ByteArray).toList) = decide (a = b) := by
  rw [ByteArray.toList_eq, ByteArray.toList_eq]
  show (a == b) = _
  by_cases h : a = b
  · rw [decide_eq_true h, beq_iff_eq]; exact h
  · rw [decide_eq_false h, beq_eq_false_iff_ne]; exact h
theorem str_eq0 (b : List UInt8) : ((⟨#[]⟩ : ByteArray).toList == (⟨b.toArray⟩ : ByteArray).toList) = decide ([] = b) := str_eq [] b
theorem str_eq1 (a : List UInt8) : ((⟨a.toArray⟩ : ByteArray).toList == (⟨#[]⟩ : ByteArray).toList) = decide (a = []) := str_eq a []
theorem str_eq2 : ((⟨#[]⟩ : ByteArray).toList == (⟨#[]⟩ : ByteArray).toList) = decide (([] : List UInt8) = []) := str_eq [] []
set_option maxHeartbeats 4000000 in
theorem bequal_calls (v w : Value) (a b : List UInt8) (H : AH) (hv : SL H v (a.map U8)) (hw : SL H w (b.map U8)) : ACalls Try.prog 37 #[v, w] H fun r H' => r = .bool (decide (a = b)) ∧ H' = H := by
  rcases hv.cv with ⟨rfl, rfl⟩ | ⟨g, o, e, rfl, rfl⟩ | ⟨g, o, e, cs, rfl, hc, hl, hb, hn⟩
  · rcases hw.cv with ⟨rfl, rfl⟩ | ⟨g', o', e', rfl, rfl⟩ | ⟨g', o', e', cs', rfl, hc', hl', hb', hn'⟩
    · have hE := str_eq2
      refine acalls_of_body Try.func37 rfl Try.ntmps37 (by simp) ?_
      simp only [argsT, Nat.reduceAdd]
      iterate 2 ((repeat first | refine Qo ?_ | refine Qn ?_); (first | (refine QK (by kernel_rfl) ?_; intro K_ hK_; simp -implicitDefEqProofs (disch := (try simp only [sl]); try omega) only [sm,QJ,Qj,Qi,Qq,QC,Qz,bd,QF,look,aput,QH,Qg,QI,abin,anil,ty,↓reduceIte,Nat.reduceEqDiff,Nat.reduceAdd,Nat.reduceSub,Nat.reduceMul,Int.reduceLT,Int.reduceLE,Int.reduceNeg,Int.reduceToNat,reduceCtorEq,Nat.reduceBEq,Nat.reduceBNe,Qk,Qe,Value.cells,am,mm,keep, hE, hE, Option.map_some]; refine hK_ _ _ ?_; clear hK_ K_; repeat first | refine QL ?_ | refine QM ?_)))
      first | refine awp_ret ?_ | skip
      show ∃ v, aresults Try.prog Try.f37 _ _ = some v ∧ _
      rw [aresults_1 (r := .tmp 4) (by kernel_rfl)]
      simp -implicitDefEqProofs (disch := (try simp only [sl]); try omega) only [aresult, Option.some.injEq, exists_eq_left', sm,Qj,Qi,Qq,QC,Qz,bd,QF,look,aput,QB,Qf,QA,ty,↓reduceIte,Nat.reduceEqDiff,Nat.reduceAdd,Nat.reduceSub,Nat.reduceMul,Int.reduceLT,Int.reduceLE,Int.reduceNeg,Int.reduceToNat,reduceCtorEq,Nat.reduceBEq,Nat.reduceBNe,Qk,Qe,Value.cells,am,mm,keep, hE]
    · have hE := str_eq2
      refine acalls_of_body Try.func37 rfl Try.ntmps37 (by simp) ?_
      simp only [argsT, Nat.reduceAdd]
      iterate 2 ((repeat first | refine Qo ?_ | refine Qn ?_); (first | (refine QK (by kernel_rfl) ?_; intro K_ hK_; simp -implicitDefEqProofs (disch := (try simp only [sl]); try omega) only [sm,QJ,Qj,Qi,Qq,QC,Qz,bd,QF,look,aput,QH,Qg,QI,abin,anil,ty,↓reduceIte,Nat.reduceEqDiff,Nat.reduceAdd,Nat.reduceSub,Nat.reduceMul,Int.reduceLT,Int.reduceLE,Int.reduceNeg,Int.reduceToNat,reduceCtorEq,Nat.reduceBEq,Nat.reduceBNe,Qk,Qe,Value.cells,am,mm,keep, hE, hE, Option.map_some]; refine hK_ _ _ ?_; clear hK_ K_; repeat first | refine QL ?_ | refine QM ?_)))
      first | refine awp_ret ?_ | skip
      show ∃ v, aresults Try.prog Try.f37 _ _ = some v ∧ _
      rw [aresults_1 (r := .tmp 4) (by kernel_rfl)]
      simp -implicitDefEqProofs (disch := (try simp only [sl]); try omega) only [aresult, Option.some.injEq, exists_eq_left', sm,Qj,Qi,Qq,QC,Qz,bd,QF,look,aput,QB,Qf,QA,ty,↓reduceIte,Nat.reduceEqDiff,Nat.reduceAdd,Nat.reduceSub,Nat.reduceMul,Int.reduceLT,Int.reduceLE,Int.reduceNeg,Int.reduceToNat,reduceCtorEq,Nat.reduceBEq,Nat.reduceBNe,Qk,Qe,Value.cells,am,mm,keep, hE]
    · have hE := str_eq0 b
      refine acalls_of_body Try.func37 rfl Try.ntmps37 (by simp) ?_
      simp only [argsT, Nat.reduceAdd]
      iterate 2 ((repeat first | refine Qo ?_ | refine Qn ?_); (first | (refine QK (by kernel_rfl) ?_; intro K_ hK_; simp -implicitDefEqProofs (disch := (try simp only [sl]); try omega) only [sm,QJ,Qj,Qi,Qq,QC,Qz,bd,QF,look,aput,QH,Qg,QI,abin,anil,ty,↓reduceIte,Nat.reduceEqDiff,Nat.reduceAdd,Nat.reduceSub,Nat.reduceMul,Int.reduceLT,Int.reduceLE,Int.reduceNeg,Int.reduceToNat,reduceCtorEq,Nat.reduceBEq,Nat.reduceBNe,Qk,Qe,Value.cells,am,mm,keep, hc', hl', hb', hn', hE, hE, Option.map_some]; refine hK_ _ _ ?_; clear hK_ K_; repeat first | refine QL ?_ | refine QM ?_)))
      first | refine awp_ret ?_ | skip
      show ∃ v, aresults Try.prog Try.f37 _ _ = some v ∧ _
      rw [aresults_1 (r := .tmp 4) (by kernel_rfl)]
      simp -implicitDefEqProofs (disch := (try simp only [sl]); try omega) only [aresult, Option.some.injEq, exists_eq_left', sm,Qj,Qi,Qq,QC,Qz,bd,QF,look,aput,QB,Qf,QA,ty,↓reduceIte,Nat.reduceEqDiff,Nat.reduceAdd,Nat.reduceSub,Nat.reduceMul,Int.reduceLT,Int.reduceLE,Int.reduceNeg,Int.reduceToNat,reduceCtorEq,Nat.reduceBEq,Nat.reduceBNe,Qk,Qe,Value.cells,am,mm,keep, hc', hl', hb', hn', hE]
  · rcases hw.cv with ⟨rfl, rfl⟩ | ⟨g', o', e', rfl, rfl⟩ | ⟨g', o', e', cs', rfl, hc', hl', hb', hn'⟩
    · have hE := str_eq2
      refine acalls_of_body Try.func37 rfl Try.ntmps37 (by simp) ?_
      simp only [argsT, Nat.reduceAdd]
      iterate 2 ((repeat first | refine Qo ?_ | refine Qn ?_); (first | (refine QK (by kernel_rfl) ?_; intro K_ hK_; simp -implicitDefEqProofs (disch := (try simp only [sl]); try omega) only [sm,QJ,Qj,Qi,Qq,QC,Qz,bd,QF,look,aput,QH,Qg,QI,abin,anil,ty,↓reduceIte,Nat.reduceEqDiff,Nat.reduceAdd,Nat.reduceSub,Nat.reduceMul,Int.reduceLT,Int.reduceLE,Int.reduceNeg,Int.reduceToNat,reduceCtorEq,Nat.reduceBEq,Nat.reduceBNe,Qk,Qe,Value.cells,am,mm,keep, hE, hE, Option.map_some]; refine hK_ _ _ ?_; clear hK_ K_; repeat first | refine QL ?_ | refine QM ?_)))
      first | refine awp_ret ?_ | skip
      show ∃ v, aresults Try.prog Try.f37 _ _ = some v ∧ _
      rw [aresults_1 (r := .tmp 4) (by kernel_rfl)]
      simp -implicitDefEqProofs (disch := (try simp only [sl]); try omega) only [aresult, Option.some.injEq, exists_eq_left', sm,Qj,Qi,Qq,QC,Qz,bd,QF,look,aput,QB,Qf,QA,ty,↓reduceIte,Nat.reduceEqDiff,Nat.reduceAdd,Nat.reduceSub,Nat.reduceMul,Int.reduceLT,Int.reduceLE,Int.reduceNeg,Int.reduceToNat,reduceCtorEq,Nat.reduceBEq,Nat.reduceBNe,Qk,Qe,Value.cells,am,mm,keep, hE]
    · have hE := str_eq2
      refine acalls_of_body Try.func37 rfl Try.ntmps37 (by simp) ?_
      simp only [argsT, Nat.reduceAdd]
      iterate 2 ((repeat first | refine Qo ?_ | refine Qn ?_); (first | (refine QK (by kernel_rfl) ?_; intro K_ hK_; simp -implicitDefEqProofs (disch := (try simp only [sl]); try omega) only [sm,QJ,Qj,Qi,Qq,QC,Qz,bd,QF,look,aput,QH,Qg,QI,abin,anil,ty,↓reduceIte,Nat.reduceEqDiff,Nat.reduceAdd,Nat.reduceSub,Nat.reduceMul,Int.reduceLT,Int.reduceLE,Int.reduceNeg,Int.reduceToNat,reduceCtorEq,Nat.reduceBEq,Nat.reduceBNe,Qk,Qe,Value.cells,am,mm,keep, hE, hE, Option.map_some]; refine hK_ _ _ ?_; clear hK_ K_; repeat first | refine QL ?_ | refine QM ?_)))
      first | refine awp_ret ?_ | skip
      show ∃ v, aresults Try.prog Try.f37 _ _ = some v ∧ _
      rw [aresults_1 (r := .tmp 4) (by kernel_rfl)]
      simp -implicitDefEqProofs (disch := (try simp only [sl]); try omega) only [aresult, Option.some.injEq, exists_eq_left', sm,Qj,Qi,Qq,QC,Qz,bd,QF,look,aput,QB,Qf,QA,ty,↓reduceIte,Nat.reduceEqDiff,Nat.reduceAdd,Nat.reduceSub,Nat.reduceMul,Int.reduceLT,Int.reduceLE,Int.reduceNeg,Int.reduceToNat,reduceCtorEq,Nat.reduceBEq,Nat.reduceBNe,Qk,Qe,Value.cells,am,mm,keep, hE]
    · have hE := str_eq0 b
      refine acalls_of_body Try.func37 rfl Try.ntmps37 (by simp) ?_
      simp only [argsT, Nat.reduceAdd]
      iterate 2 ((repeat first | refine Qo ?_ | refine Qn ?_); (first | (refine QK (by kernel_rfl) ?_; intro K_ hK_; simp -implicitDefEqProofs (disch := (try simp only [sl]); try omega) only [sm,QJ,Qj,Qi,Qq,QC,Qz,bd,QF,look,aput,QH,Qg,QI,abin,anil,ty,↓reduceIte,Nat.reduceEqDiff,Nat.reduceAdd,Nat.reduceSub,Nat.reduceMul,Int.reduceLT,Int.reduceLE,Int.reduceNeg,Int.reduceToNat,reduceCtorEq,Nat.reduceBEq,Nat.reduceBNe,Qk,Qe,Value.cells,am,mm,keep, hc', hl', hb', hn', hE, hE, Option.map_some]; refine hK_ _ _ ?_; clear hK_ K_; repeat first | refine QL ?_ | refine QM ?_)))
      first | refine awp_ret ?_ | skip
      show ∃ v, aresults Try.prog Try.f37 _ _ = some v ∧ _
      rw [aresults_1 (r := .tmp 4) (by kernel_rfl)]
      simp -implicitDefEqProofs (disch := (try simp only [sl]); try omega) only [aresult, Option.some.injEq, exists_eq_left', sm,Qj,Qi,Qq,QC,Qz,bd,QF,look,aput,QB,Qf,QA,ty,↓reduceIte,Nat.reduceEqDiff,Nat.reduceAdd,Nat.reduceSub,Nat.reduceMul,Int.reduceLT,Int.reduceLE,Int.reduceNeg,Int.reduceToNat,reduceCtorEq,Nat.reduceBEq,Nat.reduceBNe,Qk,Qe,Value.cells,am,mm,keep, hc', hl', hb', hn', hE]
  · rcases hw.cv with ⟨rfl, rfl⟩ | ⟨g', o', e', rfl, rfl⟩ | ⟨g', o', e', cs', rfl, hc', hl', hb', hn'⟩
    · have hE := str_eq1 a
      refine acalls_of_body Try.func37 rfl Try.ntmps37 (by simp) ?_
      simp only [argsT, Nat.reduceAdd]
      iterate 2 ((repeat first | refine Qo ?_ | refine Qn ?_); (first | (refine QK (by kernel_rfl) ?_; intro K_ hK_; simp -implicitDefEqProofs (disch := (try simp only [sl]); try omega) only [sm,QJ,Qj,Qi,Qq,QC,Qz,bd,QF,look,aput,QH,Qg,QI,abin,anil,ty,↓reduceIte,Nat.reduceEqDiff,Nat.reduceAdd,Nat.reduceSub,Nat.reduceMul,Int.reduceLT,Int.reduceLE,Int.reduceNeg,Int.reduceToNat,reduceCtorEq,Nat.reduceBEq,Nat.reduceBNe,Qk,Qe,Value.cells,am,mm,keep, hc, hl, hb, hn, hE, hE, Option.map_some]; refine hK_ _ _ ?_; clear hK_ K_; repeat first | refine QL ?_ | refine QM ?_)))
      first | refine awp_ret ?_ | skip
      show ∃ v, aresults Try.prog Try.f37 _ _ = some v ∧ _
      rw [aresults_1 (r := .tmp 4) (by kernel_rfl)]
      simp -implicitDefEqProofs (disch := (try simp only [sl]); try omega) only [aresult, Option.some.injEq, exists_eq_left', sm,Qj,Qi,Qq,QC,Qz,bd,QF,look,aput,QB,Qf,QA,ty,↓reduceIte,Nat.reduceEqDiff,Nat.reduceAdd,Nat.reduceSub,Nat.reduceMul,Int.reduceLT,Int.reduceLE,Int.reduceNeg,Int.reduceToNat,reduceCtorEq,Nat.reduceBEq,Nat.reduceBNe,Qk,Qe,Value.cells,am,mm,keep, hc, hl, hb, hn, hE]
    · have hE := str_eq1 a
      refine acalls_of_body Try.func37 rfl Try.ntmps37 (by simp) ?_
      simp only [argsT, Nat.reduceAdd]
      iterate 2 ((repeat first | refine Qo ?_ | refine Qn ?_); (first | (refine QK (by kernel_rfl) ?_; intro K_ hK_; simp -implicitDefEqProofs (disch := (try simp only [sl]); try omega) only [sm,QJ,Qj,Qi,Qq,QC,Qz,bd,QF,look,aput,QH,Qg,QI,abin,anil,ty,↓reduceIte,Nat.reduceEqDiff,Nat.reduceAdd,Nat.reduceSub,Nat.reduceMul,Int.reduceLT,Int.reduceLE,Int.reduceNeg,Int.reduceToNat,reduceCtorEq,Nat.reduceBEq,Nat.reduceBNe,Qk,Qe,Value.cells,am,mm,keep, hc, hl, hb, hn, hE, hE, Option.map_some]; refine hK_ _ _ ?_; clear hK_ K_; repeat first | refine QL ?_ | refine QM ?_)))
      first | refine awp_ret ?_ | skip
      show ∃ v, aresults Try.prog Try.f37 _ _ = some v ∧ _
      rw [aresults_1 (r := .tmp 4) (by kernel_rfl)]
      simp -implicitDefEqProofs (disch := (try simp only [sl]); try omega) only [aresult, Option.some.injEq, exists_eq_left', sm,Qj,Qi,Qq,QC,Qz,bd,QF,look,aput,QB,Qf,QA,ty,↓reduceIte,Nat.reduceEqDiff,Nat.reduceAdd,Nat.reduceSub,Nat.reduceMul,Int.reduceLT,Int.reduceLE,Int.reduceNeg,Int.reduceToNat,reduceCtorEq,Nat.reduceBEq,Nat.reduceBNe,Qk,Qe,Value.cells,am,mm,keep, hc, hl, hb, hn, hE]
    · have hE := str_eq a b
      refine acalls_of_body Try.func37 rfl Try.ntmps37 (by simp) ?_
      simp only [argsT, Nat.reduceAdd]
      iterate 2 ((repeat first | refine Qo ?_ | refine Qn ?_); (first | (refine QK (by kernel_rfl) ?_; intro K_ hK_; simp -implicitDefEqProofs (disch := (try simp only [sl]); try omega) only [sm,QJ,Qj,Qi,Qq,QC,Qz,bd,QF,look,aput,QH,Qg,QI,abin,anil,ty,↓reduceIte,Nat.reduceEqDiff,Nat.reduceAdd,Nat.reduceSub,Nat.reduceMul,Int.reduceLT,Int.reduceLE,Int.reduceNeg,Int.reduceToNat,reduceCtorEq,Nat.reduceBEq,Nat.reduceBNe,Qk,Qe,Value.cells,am,mm,keep, hc, hl, hb, hn, hc', hl', hb', hn', hE, hE, Option.map_some]; refine hK_ _ _ ?_; clear hK_ K_; repeat first | refine QL ?_ | refine QM ?_)))
      first | refine awp_ret ?_ | skip
      show ∃ v, aresults Try.prog Try.f37 _ _ = some v ∧ _
      rw [aresults_1 (r := .tmp 4) (by kernel_rfl)]
      simp -implicitDefEqProofs (disch := (try simp only [sl]); try omega) only [aresult, Option.some.injEq, exists_eq_left', sm,Qj,Qi,Qq,QC,Qz,bd,QF,look,aput,QB,Qf,QA,ty,↓reduceIte,Nat.reduceEqDiff,Nat.reduceAdd,Nat.reduceSub,Nat.reduceMul,Int.reduceLT,Int.reduceLE,Int.reduceNeg,Int.reduceToNat,reduceCtorEq,Nat.reduceBEq,Nat.reduceBNe,Qk,Qe,Value.cells,am,mm,keep, hc, hl, hb, hn, hc', hl', hb', hn', hE]
/-- The entries of a map from digests to rows of numbers. -/
abbrev Ent := List UInt8 × Value × List Nat
def entM (M : List Ent) : List (Value × Value) := M.map fun m => (.agg (m.1.map U8).toArray, m.2.1)
theorem afind_M {d : List UInt8} (hd : d.length = 32) : ∀ (M : List Ent) (i : Nat), (∀ (p : Nat) (m : Ent), M[p]? = some m → m.1.length = 32) → (∃ (p : Nat) (m : Ent), M[p]? = some m ∧ m.1 = d ∧ afind Try.prog 22 (d.map U8).toArray (entM M) i = some (some (i + p, m.2.1))) ∨ ((∀ (p : Nat) (m : Ent), M[p]? = some m → m.1 ≠ d) ∧ afind Try.prog 22 (d.map U8).toArray (entM M) i = some none)
  | [], i, _ => .inr ⟨fun p m h => by simp at h, rfl⟩
  | x :: t, i, hr => by
    have hx := hr 0 x rfl
    have ih := afind_M hd t (i + 1) fun p m h => hr (p + 1) m (by simpa using h)
    have hq := aeq32 d x.1 hd hx
    have e1 : entM (x :: t) = (.agg (x.1.map U8).toArray, x.2.1) :: entM t := rfl
    rw [e1, afind_agg, hq]
    by_cases h : d = x.1
    · rw [decide_eq_true h]
      exact .inl ⟨0, x, rfl, h.symm, rfl⟩
    · rw [decide_eq_false h]
      rcases ih with ⟨p, m, k1, k2, k3⟩ | ⟨k1, k2⟩
      · exact .inl ⟨p + 1, m, by simpa using k1, k2, by simp only [k3]; rw [Nat.add_assoc, Nat.add_comm 1 p]⟩
      · refine .inr ⟨fun p m hp => ?_, k2⟩
        cases p with
        | zero => simp only [List.getElem?_cons_zero, Option.some.injEq] at hp; rw [← hp]; exact fun e => h e.symm
        | succ p => exact k1 p m (by simpa using hp)
theorem map_ints : mapT Try.prog 75 = some (22, 77) := by
  have : Try.prog.underlying 75 = some (.map 22 77) := by kernel_rfl
  unfold mapT
  rw [this]
theorem wide_32 : wideT Try.prog 22 = true := by kernel_rfl
theorem zero_ints : zero1 Try.prog 77 = some (.slice none 0 0) := by kernel_rfl
def idxD (D : Fn8) (k : Nat) (d : List UInt8) : List Nat := (List.range k).filter fun i => decide (D i = d)
theorem mem_idx {D : Fn8} {k i : Nat} {d : List UInt8} : i ∈ idxD D k d ↔ i < k ∧ D i = d := by simp [idxD]
theorem idx_succ (D : Fn8) (k : Nat) (d : List UInt8) : idxD D (k + 1) d = if D k = d then idxD D k d ++ [k] else idxD D k d := by
  unfold idxD
  rw [List.range_succ, List.filter_append]
  by_cases h : D k = d
  · rw [if_pos h]; simp [h]
  · rw [if_neg h]; simp [h]
theorem idx_srt (D : Fn8) (k : Nat) (d : List UInt8) : (idxD D k d).Pairwise (· < ·) := List.Pairwise.filter _ List.pairwise_lt_range
theorem idx_len (D : Fn8) (k : Nat) (d : List UInt8) : (idxD D k d).length ≤ k := by
  have := List.length_filter_le (fun i => decide (D i = d)) (List.range k)
  rw [List.length_range] at this
  exact this
def Dj (a b : Value) : Prop := ∀ q o m e o' m' e', a = .slice (some ⟨q, o, none⟩) m e → b ≠ .slice (some ⟨q, o', none⟩) m' e'
theorem Dj.symm {a b : Value} (h : Dj a b) : Dj b a := fun q o m e o' m' e' h1 h2 => h q o' m' e' o m e h2 h1
def MI (b : Nat) (H : AH) (D : Fn8) (k : Nat) (M : List Ent) : Prop :=
  (∀ (i : Nat) m, M[i]? = some m → m.1.length = 32 ∧ m.2.2 = idxD D k m.1 ∧ OSn 1 b H m.2.1 m.2.2.length (m.2.2.map I64)) ∧
  (∀ (i j : Nat) m m', M[i]? = some m → M[j]? = some m' → i ≠ j → m.1 ≠ m'.1 ∧ Dj m.2.1 m'.2.1) ∧ ∀ i, i < k → ∃ (j : Nat) (m : Ent), M[j]? = some m ∧ m.1 = D i
theorem OSn.keepb {s b : Nat} {H H' : AH} {v : Value} {n : Nat} {cells : List Value} (h : OSn s b H v n cells) (hk : ∀ q o m e, v = .slice (some ⟨q, o, .none⟩) m e → b ≤ q → ∀ y, H[q]? = some y → H'[q]? = some y) : OSn s b H' v n cells := by
  rcases h with h | ⟨g, h1, h2, h3⟩
  · exact .inl h
  · exact .inr ⟨g, h1, hk _ _ _ _ h1 h3 _ h2, h3⟩
theorem MI.keep {b : Nat} {H H' : AH} {D : Fn8} {k : Nat} {M : List Ent} (h : MI b H D k M) (hk : ∀ q y, b ≤ q → H[q]? = some y → H'[q]? = some y) : MI b H' D k M :=
  ⟨fun i m hm => ⟨(h.1 i m hm).1, (h.1 i m hm).2.1, (h.1 i m hm).2.2.keepb fun q o m e _ hb y hy => hk q y hb hy⟩, h.2⟩
theorem MI.mono {b : Nat} {H H' : AH} {D : Fn8} {k : Nat} {M : List Ent} (h : MI b H D k M) (e : Ext H H') : MI b H' D k M := h.keep fun q y _ hy => e q y hy
theorem MI.zero (b : Nat) (H : AH) (D : Fn8) : MI b H D 0 [] := ⟨fun i m h => by simp at h, fun i j m m' h => by simp at h, fun i h => absurd h (by omega)⟩
theorem set_app {H : AH} {g : Nat} {x y : ABlk} (hg : g < H.length) : (H ++ [y]).set g x = H.set g x ++ [y] := by
  rw [List.set_append, if_pos hg]
/-- The entry of a digest: looked up, made, set. -/
theorem MI.entry {b g k : Nat} {H : AH} {D : Fn8} {M : List Ent} (h : MI b H D k M) (hg : H[g]? = some (.map (entM M))) (hgb : g < b) (hk : (D k).length = 32) :
    ∃ (s0 : Value) (p : Nat) (es1 : List (Value × Value)) (M2 : Value → List Ent), alookup Try.prog H 75 (.map (some g)) (.agg ((D k).map U8).toArray) = some s0 ∧
      OSn 1 b H s0 (idxD D k (D k)).length ((idxD D k (D k)).map I64) ∧
      (∀ c, amapent Try.prog (H ++ [.own c]) 75 (.map (some g)) (.agg ((D k).map U8).toArray) = some (.tuple #[s0, I64 p], H.set g (.map es1) ++ [.own c])) ∧
      (∀ (H5 : AH) s5, H5[g]? = some (.map es1) → aentst H5 (.map (some g)) (I64 p) s5 = some (H5.set g (.map (entM (M2 s5))))) ∧
      ∀ (H5 : AH) s5, OSn 1 H.length H5 s5 ((idxD D k (D k)).length + 1) ((idxD D k (D k)).map I64 ++ [I64 k]) → b ≤ H.length → (∀ q y, (∀ o m e, s0 ≠ .slice (some ⟨q, o, none⟩) m e) → q ≠ g → H[q]? = some y → H5[q]? = some y) → MI b H5 D (k + 1) (M2 s5) := by
  have hq := aeq32 (D k) (D k) hk hk
  rw [decide_eq_true rfl] at hq
  have hgl := got_lt hg
  have hgc : ∀ c, (H ++ [ABlk.own c])[g]? = some (.map (entM M)) := fun c => Ext.push _ _ _ _ hg
  have hidx : idxD D (k + 1) (D k) = idxD D k (D k) ++ [k] := by rw [idx_succ, if_pos rfl]
  have hmI : (idxD D k (D k)).map I64 ++ [I64 k] = (idxD D (k + 1) (D k)).map I64 := by rw [hidx, List.map_append]; rfl
  have hlI : (idxD D k (D k)).length + 1 = (idxD D (k + 1) (D k)).length := by rw [hidx, List.length_append]; rfl
  rcases afind_M hk M 0 (fun p m hm => (h.1 p m hm).1) with ⟨p, m, hp, hm, hf⟩ | ⟨hno, hf⟩
  · rw [Nat.zero_add] at hf
    obtain ⟨m1, m2, m3⟩ := h.1 p m hp
    have hpl : p < M.length := (List.getElem?_eq_some_iff.1 hp).1
    have hep : (entM M)[p]? = some (.agg ((D k).map U8).toArray, m.2.1) := by rw [entM, List.getElem?_map, hp, ← hm]; rfl
    refine ⟨m.2.1, p, entM M, fun s5 => M.set p (D k, s5, idxD D (k + 1) (D k)), ?_, ?_, fun c => ?_, fun H5 s5 h5 => ?_, fun H5 s5 o5 hbl hkp => ?_⟩
    · unfold alookup
      simp only [hg, map_ints, wide_32, hq, hf, true_and, and_self, if_true]
    · rw [m2, hm] at m3; exact m3
    · unfold amapent
      simp only [hgc, map_ints, wide_32, hq, hf, true_and, and_self, if_true, hep, Option.map_some]
      rw [set_same hg]
    · unfold aentst
      simp only [h5, Int.toNat_natCast, hep]
      rw [if_pos (by omega), entM, entM, List.map_set]
    · rw [hmI, hlI] at o5
      refine ⟨fun i m' hi => ?_, fun i j a c hi hj hij => ?_, fun i hi => ?_⟩
      · rw [List.getElem?_set] at hi
        split at hi
        · rename_i e
          cases hi
          exact ⟨hk, rfl, o5.low hbl⟩
        · rename_i e
          obtain ⟨n1, n2, n3⟩ := h.1 i m' hi
          obtain ⟨n4, n5⟩ := h.2.1 p i m m' hp hi e
          have n6 : idxD D (k + 1) m'.1 = idxD D k m'.1 := by rw [idx_succ, if_neg (fun q => n4 (hm.trans q))]
          refine ⟨n1, by rw [n6]; exact n2, n3.keepb fun q o n e hq hb y hy => hkp q y (fun o2 m2 e2 k2 => n5 _ _ _ _ _ _ _ k2 hq) (by omega) hy⟩
      · have new : ∀ (j : Nat) (c : Ent), M[j]? = some c → p ≠ j → D k ≠ c.1 ∧ Dj s5 c.2.1 := fun j c hj e => by
          obtain ⟨n4, n5⟩ := h.2.1 p j m c hp hj e
          refine ⟨fun q => n4 (hm.trans q), fun q o m e o' m' e' k1 k2 => ?_⟩
          have h1 := (o5.lt _ _ _ _ k1).2
          have h2 := ((h.1 j c hj).2.2.lt _ _ _ _ k2).1
          omega
        rw [List.getElem?_set] at hi hj
        split at hi
        · rename_i e1
          cases hi
          rw [if_neg (by omega)] at hj
          exact new j c hj (by omega)
        · rename_i e1
          split at hj
          · rename_i e2
            cases hj
            obtain ⟨n1, n2⟩ := new i a hi (by omega)
            exact ⟨fun q => n1 q.symm, n2.symm⟩
          · exact h.2.1 i j a c hi hj hij
      · by_cases e : D i = D k
        · exact ⟨p, _, by rw [List.getElem?_set_self hpl], e.symm⟩
        · have hik : i < k := by
            rcases Nat.lt_succ_iff_lt_or_eq.1 hi with h | h
            · exact h
            · exact absurd (by rw [h]) e
          obtain ⟨j, c, hj, hc⟩ := h.2.2 i hik
          refine ⟨j, c, ?_, hc⟩
          rw [List.getElem?_set_ne]
          · exact hj
          · rintro rfl
            rw [hp] at hj; cases hj
            exact e (hc.symm.trans hm)
  · have hnil : idxD D k (D k) = [] := by
      rw [List.eq_nil_iff_forall_not_mem]
      intro i hi
      obtain ⟨h1, h2⟩ := mem_idx.1 hi
      obtain ⟨j, c, hj, hc⟩ := h.2.2 i h1
      exact hno j c hj (hc.trans h2)
    refine ⟨.slice none 0 0, M.length, entM M ++ [(.agg ((D k).map U8).toArray, .slice none 0 0)], fun s5 => M ++ [(D k, s5, idxD D (k + 1) (D k))], ?_, ?_, fun c => ?_, fun H5 s5 h5 => ?_, fun H5 s5 o5 hbl hkp => ?_⟩
    · unfold alookup
      simp only [hg, map_ints, wide_32, hq, hf, true_and, and_self, if_true, zero_ints]
    · rw [hnil]; exact .inl ⟨rfl, rfl, rfl⟩
    · unfold amapent
      simp only [hgc, map_ints, wide_32, hq, hf, true_and, and_self, if_true, zero_ints, Option.map_some]
      rw [set_app hgl, entM, List.length_map]
    · have hl : (entM M).length = M.length := by rw [entM, List.length_map]
      have hep : (entM M ++ [((.agg ((D k).map U8).toArray : Value), (.slice none 0 0 : Value))])[M.length]? = some (.agg ((D k).map U8).toArray, .slice none 0 0) := by rw [← hl]; simp
      unfold aentst
      simp only [h5, Int.toNat_natCast, hep]
      rw [if_pos (by omega)]
      congr 3
      rw [List.set_append, if_neg (by omega), hl, Nat.sub_self]
      simp [entM]
    · rw [hmI, hlI] at o5
      have old : ∀ (i : Nat) (m' : Ent), M[i]? = some m' → m'.1.length = 32 ∧ m'.2.2 = idxD D (k + 1) m'.1 ∧ OSn 1 b H5 m'.2.1 m'.2.2.length (m'.2.2.map I64) := fun i m' hi => by
        obtain ⟨n1, n2, n3⟩ := h.1 i m' hi
        have n4 := hno i m' hi
        have n6 : idxD D (k + 1) m'.1 = idxD D k m'.1 := by rw [idx_succ, if_neg (fun q => n4 q.symm)]
        exact ⟨n1, by rw [n6]; exact n2, n3.keepb fun q o n e hq hb y hy => hkp q y (fun o2 m2 e2 k2 => by cases k2) (by omega) hy⟩
      have new : ∀ (j : Nat) (c : Ent), M[j]? = some c → D k ≠ c.1 ∧ Dj s5 c.2.1 := fun j c hj => by
        refine ⟨fun q => hno j c hj q.symm, fun q o m e o' m' e' k1 k2 => ?_⟩
        have h1 := (o5.lt _ _ _ _ k1).2
        have h2 := ((h.1 j c hj).2.2.lt _ _ _ _ k2).1
        omega
      have get : ∀ (i : Nat) (m' : Ent), (M ++ [(D k, s5, idxD D (k + 1) (D k))])[i]? = some m' → (i < M.length ∧ M[i]? = some m') ∨ (i = M.length ∧ m' = (D k, s5, idxD D (k + 1) (D k))) := fun i m' hi => by
        by_cases e : i < M.length
        · rw [List.getElem?_append_left e] at hi; exact .inl ⟨e, hi⟩
        · rw [List.getElem?_append_right (by omega)] at hi
          have : i - M.length = 0 := by
            have := (List.getElem?_eq_some_iff.1 hi).1
            simp at this; omega
          rw [this] at hi
          cases hi
          exact .inr ⟨by omega, rfl⟩
      refine ⟨fun i m' hi => ?_, fun i j a c hi hj hij => ?_, fun i hi => ?_⟩
      · rcases get i m' hi with ⟨_, hi⟩ | ⟨_, rfl⟩
        · exact old i m' hi
        · exact ⟨hk, rfl, o5.low hbl⟩
      · rcases get i a hi with ⟨ei, hi⟩ | ⟨ei, rfl⟩
        · rcases get j c hj with ⟨ej, hj⟩ | ⟨ej, rfl⟩
          · exact h.2.1 i j a c hi hj hij
          · obtain ⟨n1, n2⟩ := new i a hi
            exact ⟨fun q => n1 q.symm, n2.symm⟩
        · rcases get j c hj with ⟨ej, hj⟩ | ⟨ej, rfl⟩
          · exact new j c hj
          · omega
      · rcases Nat.lt_succ_iff_lt_or_eq.1 hi with hik | rfl
        · obtain ⟨j, c, hj, hc⟩ := h.2.2 i hik
          exact ⟨j, c, by rw [List.getElem?_append_left (List.getElem?_eq_some_iff.1 hj).1]; exact hj, hc⟩
        · exact ⟨M.length, (D i, s5, idxD D (i + 1) (D i)), by simp, rfl⟩
end Go.Proofs.Ytpiaohajbbdpdaa
