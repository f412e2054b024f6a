/- pack: Text, Fill; the document's Text, Fill, Num. -/
import Derived.Test.YtldfnfpinemedaaPk2
namespace Go.Proofs.Ytldfnfpinemedaa
open Go Go.RowKit
--hide
set_option linter.unusedSimpArgs false
set_option linter.unusedVariables false
set_option maxRecDepth 4000
def okT (s : List UInt8) (z : Int) : Prop := 1 ≤ z ∧ z ≤ 255 ∧ (s.length : Int) ≤ z
instance (s : List UInt8) (z : Int) : Decidable (okT s z) := inferInstanceAs (Decidable (_ ∧ _))
def putT (b s : List UInt8) (z : Int) : List UInt8 := b ++ (UInt8.ofNat s.length :: (s ++ zb (z.toNat - s.length)))
def okF (b : List UInt8) (z : Int) : Prop := (b.length : Int) ≤ z
instance (b : List UInt8) (z : Int) : Decidable (okF b z) := inferInstanceAs (Decidable (_ ≤ _))
def putF (b : List UInt8) (z : Int) : List UInt8 := b ++ zb (z.toNat - b.length)
def tT (b s : List UInt8) (z : Int) : List UInt8 := if okT s z then putT b s z else []
def eT (s : List UInt8) (z : Int) : Int := if okT s z then 0 else 1
def tF (b : List UInt8) (z : Int) : List UInt8 := if okF b z then putF b z else []
def eF (b : List UInt8) (z : Int) : Int := if okF b z then 0 else 1
theorem uni {H H' : AH} {w : Value} {c : Prop} [Decidable c] {l : List UInt8} (h : (c ∧ (∃ x, w = .tuple #[x, .int .i64 0] ∧ OS H.length H' x (l.map U8)) ∨ ¬ c ∧ w = .tuple #[.slice none 0 0, .int .i64 1]) ∧ Ext H H') :
    ∃ x, w = .tuple #[x, .int .i64 (if c then 0 else 1)] ∧ OS H.length H' x ((if c then l else []).map U8) ∧ Ext H H' := by
  obtain ⟨⟨hc, x, rfl, ho⟩ | ⟨hc, rfl⟩, e⟩ := h
  · exact ⟨x, by rw [if_pos hc], by rw [if_pos hc]; exact ho, e⟩
  · exact ⟨_, by rw [if_neg hc], by rw [if_neg hc]; exact OS.nil _ _, e⟩
set_option maxHeartbeats 8000000 in
theorem text_calls (v u : Value) (b s : List UInt8) (z : Int) (H : AH) (hv : SL H v (b.map U8)) (hu : SL H u (s.map U8)) (hb : b.length ≤ 1099511627776) (hs : s.length ≤ 9223372036854775807) :
    ACalls Try.prog 60 #[v, u, .int .i64 z] H fun w H' => (okT s z ∧ (∃ x, w = .tuple #[x, .int .i64 0] ∧ OS H.length H' x ((putT b s z).map U8)) ∨ ¬ okT s z ∧ w = .tuple #[.slice none 0 0, .int .i64 1]) ∧ Ext H H' := by
  have lu := alen_sl (P := Try.prog) (T := 85) (by simp only [ty]) hu
  rw [List.length_map] at lu
  refine acalls_of_body Try.func60 rfl Try.ntmps60 (by simp) ?_
  simp only [argsT, Nat.reduceAdd]
  iterate 1 ((repeat first | refine Qo ?_ | refine Qn ?_); (first | (refine QK (by kernel_rfl) ?_; intro K_ hK_; simp -implicitDefEqProofs (disch := (try simp only [sl]); try omega) only [sm,QJ,Qj,Qi,Qq,QC,bd,look,aput,ty,↓reduceIte,Nat.reduceEqDiff,Nat.reduceAdd,Nat.reduceSub,Nat.reduceMul,Int.reduceLT,Int.reduceLE,Int.reduceNeg,Int.reduceToNat,reduceCtorEq,Nat.reduceBEq,Nat.reduceBNe,Qk,Qe,Value.cells,am,mm,keep, lu]; refine hK_ _ _ ?_; clear hK_ K_; repeat first | refine QL ?_ | refine QM ?_)))
  by_cases h1 : z < 1
  · -- R1
    iterate 1 ((repeat first | refine Qo ?_ | refine Qn ?_); (first | (refine QK (by kernel_rfl) ?_; intro K_ hK_; simp -implicitDefEqProofs (disch := (try simp only [sl]); try omega) only [sm,QJ,Qj,Qi,Qq,QC,bd,look,aput,QI,abin,anil,ty,↓reduceIte,Nat.reduceEqDiff,Nat.reduceAdd,Nat.reduceSub,Nat.reduceMul,Int.reduceLT,Int.reduceLE,Int.reduceNeg,Int.reduceToNat,reduceCtorEq,Nat.reduceBEq,Nat.reduceBNe,Qk,Qe,Value.cells,am,mm,keep, lu, aint, h1]; refine hK_ _ _ ?_; clear hK_ K_; repeat first | refine QL ?_ | refine QM ?_)))
    repeat first | refine Qo ?_ | refine Qn ?_
    refine awp_if true rfl (by first | (simp only [aeval_tmp, look, ↓reduceIte, Nat.reduceEqDiff]; try rfl) | rfl) (fun _ => ?_) (fun h => absurd h (by decide))
    iterate 1 ((repeat first | refine Qo ?_ | refine Qn ?_); (first | (refine QK (by kernel_rfl) ?_; intro K_ hK_; simp -implicitDefEqProofs (disch := (try simp only [sl]); try omega) only [sm,QJ,Qj,Qi,Qq,QC,bd,look,aput,ty,↓reduceIte,Nat.reduceEqDiff,Nat.reduceAdd,Nat.reduceSub,Nat.reduceMul,Int.reduceLT,Int.reduceLE,Int.reduceNeg,Int.reduceToNat,reduceCtorEq,Nat.reduceBEq,Nat.reduceBNe,Qk,Qe,Value.cells,am,mm,keep, lu]; refine hK_ _ _ ?_; clear hK_ K_; repeat first | refine QL ?_ | refine QM ?_)))
    first | refine awp_ret ?_ | skip
    show ∃ v, aresults Try.prog Try.f60 _ _ = some v ∧ _
    rw [aresults_2 (r := .tmp 6) (s := .tmp 7) (by kernel_rfl)]
    simp -implicitDefEqProofs (disch := (try simp only [sl]); try omega) only [aresult, Option.some.injEq, exists_eq_left', sm,Qj,Qi,Qq,QC,Qz,bd,QF,look,aput,QB,Qf,QA,ty,↓reduceIte,Nat.reduceEqDiff,Nat.reduceAdd,Nat.reduceSub,Nat.reduceMul,Int.reduceLT,Int.reduceLE,Int.reduceNeg,Int.reduceToNat,reduceCtorEq,Nat.reduceBEq,Nat.reduceBNe,Qk,Qe,Value.cells,am,mm,keep, lu]
    exact ⟨.inr (fun h => by have := h.1; omega), Ext.refl _⟩
  by_cases h2 : z > 255
  · -- (cursor back)
    iterate 1 ((repeat first | refine Qo ?_ | refine Qn ?_); (first | (refine QK (by kernel_rfl) ?_; intro K_ hK_; simp -implicitDefEqProofs (disch := (try simp only [sl]); try omega) only [sm,QJ,Qj,Qi,Qq,QC,bd,look,aput,QI,abin,anil,ty,↓reduceIte,Nat.reduceEqDiff,Nat.reduceAdd,Nat.reduceSub,Nat.reduceMul,Int.reduceLT,Int.reduceLE,Int.reduceNeg,Int.reduceToNat,reduceCtorEq,Nat.reduceBEq,Nat.reduceBNe,Qk,Qe,Value.cells,am,mm,keep, lu, aint, h1, h2]; refine hK_ _ _ ?_; clear hK_ K_; repeat first | refine QL ?_ | refine QM ?_)))
    repeat first | refine Qo ?_ | refine Qn ?_
    refine awp_if true rfl (by first | (simp only [aeval_tmp, look, ↓reduceIte, Nat.reduceEqDiff]; try rfl) | rfl) (fun _ => ?_) (fun h => absurd h (by decide))
    iterate 1 ((repeat first | refine Qo ?_ | refine Qn ?_); (first | (refine QK (by kernel_rfl) ?_; intro K_ hK_; simp -implicitDefEqProofs (disch := (try simp only [sl]); try omega) only [sm,QJ,Qj,Qi,Qq,QC,bd,look,aput,ty,↓reduceIte,Nat.reduceEqDiff,Nat.reduceAdd,Nat.reduceSub,Nat.reduceMul,Int.reduceLT,Int.reduceLE,Int.reduceNeg,Int.reduceToNat,reduceCtorEq,Nat.reduceBEq,Nat.reduceBNe,Qk,Qe,Value.cells,am,mm,keep, lu]; refine hK_ _ _ ?_; clear hK_ K_; repeat first | refine QL ?_ | refine QM ?_)))
    first | refine awp_ret ?_ | skip
    show ∃ v, aresults Try.prog Try.f60 _ _ = some v ∧ _
    rw [aresults_2 (r := .tmp 6) (s := .tmp 7) (by kernel_rfl)]
    simp -implicitDefEqProofs (disch := (try simp only [sl]); try omega) only [aresult, Option.some.injEq, exists_eq_left', sm,Qj,Qi,Qq,QC,Qz,bd,QF,look,aput,QB,Qf,QA,ty,↓reduceIte,Nat.reduceEqDiff,Nat.reduceAdd,Nat.reduceSub,Nat.reduceMul,Int.reduceLT,Int.reduceLE,Int.reduceNeg,Int.reduceToNat,reduceCtorEq,Nat.reduceBEq,Nat.reduceBNe,Qk,Qe,Value.cells,am,mm,keep, lu]
    exact ⟨.inr (fun h => by have := h.2.1; omega), Ext.refl _⟩
  by_cases h3 : (s.length : Int) > z
  · -- (cursor back)
    iterate 1 ((repeat first | refine Qo ?_ | refine Qn ?_); (first | (refine QK (by kernel_rfl) ?_; intro K_ hK_; simp -implicitDefEqProofs (disch := (try simp only [sl]); try omega) only [sm,QJ,Qj,Qi,Qq,QC,bd,look,aput,QI,abin,anil,ty,↓reduceIte,Nat.reduceEqDiff,Nat.reduceAdd,Nat.reduceSub,Nat.reduceMul,Int.reduceLT,Int.reduceLE,Int.reduceNeg,Int.reduceToNat,reduceCtorEq,Nat.reduceBEq,Nat.reduceBNe,Qk,Qe,Value.cells,am,mm,keep, lu, aint, h1, h2, h3]; refine hK_ _ _ ?_; clear hK_ K_; repeat first | refine QL ?_ | refine QM ?_)))
    repeat first | refine Qo ?_ | refine Qn ?_
    refine awp_if true rfl (by first | (simp only [aeval_tmp, look, ↓reduceIte, Nat.reduceEqDiff]; try rfl) | rfl) (fun _ => ?_) (fun h => absurd h (by decide))
    iterate 1 ((repeat first | refine Qo ?_ | refine Qn ?_); (first | (refine QK (by kernel_rfl) ?_; intro K_ hK_; simp -implicitDefEqProofs (disch := (try simp only [sl]); try omega) only [sm,QJ,Qj,Qi,Qq,QC,bd,look,aput,ty,↓reduceIte,Nat.reduceEqDiff,Nat.reduceAdd,Nat.reduceSub,Nat.reduceMul,Int.reduceLT,Int.reduceLE,Int.reduceNeg,Int.reduceToNat,reduceCtorEq,Nat.reduceBEq,Nat.reduceBNe,Qk,Qe,Value.cells,am,mm,keep, lu]; refine hK_ _ _ ?_; clear hK_ K_; repeat first | refine QL ?_ | refine QM ?_)))
    first | refine awp_ret ?_ | skip
    show ∃ v, aresults Try.prog Try.f60 _ _ = some v ∧ _
    rw [aresults_2 (r := .tmp 6) (s := .tmp 7) (by kernel_rfl)]
    simp -implicitDefEqProofs (disch := (try simp only [sl]); try omega) only [aresult, Option.some.injEq, exists_eq_left', sm,Qj,Qi,Qq,QC,Qz,bd,QF,look,aput,QB,Qf,QA,ty,↓reduceIte,Nat.reduceEqDiff,Nat.reduceAdd,Nat.reduceSub,Nat.reduceMul,Int.reduceLT,Int.reduceLE,Int.reduceNeg,Int.reduceToNat,reduceCtorEq,Nat.reduceBEq,Nat.reduceBNe,Qk,Qe,Value.cells,am,mm,keep, lu]
    exact ⟨.inr (fun h => by have := h.2.2; omega), Ext.refl _⟩
  iterate 1 ((repeat first | refine Qo ?_ | refine Qn ?_); (first | (refine QK (by kernel_rfl) ?_; intro K_ hK_; simp -implicitDefEqProofs (disch := (try simp only [sl]); try omega) only [sm,QJ,Qj,Qi,Qq,QC,bd,look,aput,QI,abin,anil,ty,↓reduceIte,Nat.reduceEqDiff,Nat.reduceAdd,Nat.reduceSub,Nat.reduceMul,Int.reduceLT,Int.reduceLE,Int.reduceNeg,Int.reduceToNat,reduceCtorEq,Nat.reduceBEq,Nat.reduceBNe,Qk,Qe,Value.cells,am,mm,keep, lu, aint, h1, h2, h3]; refine hK_ _ _ ?_; clear hK_ K_; repeat first | refine QL ?_ | refine QM ?_)))
  repeat first | refine Qo ?_ | refine Qn ?_
  refine awp_if false rfl (by first | (simp only [aeval_tmp, look, ↓reduceIte, Nat.reduceEqDiff]; try rfl) | rfl) (fun h => absurd h (by decide)) (fun _ => ?_)
  have hok : okT s z := ⟨by omega, by omega, by omega⟩
  obtain ⟨m, rfl⟩ := Int.eq_ofNat_of_zero_le (show 0 ≤ z by omega)
  iterate 1 ((repeat first | refine Qo ?_ | refine Qn ?_); (first | (refine QK (by kernel_rfl) ?_; intro K_ hK_; simp -implicitDefEqProofs (disch := (try simp only [sl]); try omega) only [sm,QJ,Qj,Qi,Qq,QC,Qz,bd,QF,look,aput,Qm,QH,Qg,ty,↓reduceIte,Nat.reduceEqDiff,Nat.reduceAdd,Nat.reduceSub,Nat.reduceMul,Int.reduceLT,Int.reduceLE,Int.reduceNeg,Int.reduceToNat,reduceCtorEq,Nat.reduceBEq,Nat.reduceBNe,Qk,Qe,Value.cells,am,mm,keep, lu]; refine hK_ _ _ ?_; clear hK_ K_; repeat first | refine QL ?_ | refine QM ?_) | (refine awp_skip ?_; repeat first | refine QL ?_ | refine QM ?_)))
  (repeat first | refine Qo ?_ | refine Qn ?_); refine QK (by kernel_rfl) ?_; intro K_ hK_; simp -implicitDefEqProofs (disch := (try simp only [sl]); try omega) only [sm,QJ,Qj,Qi,Qq,QC,Qz,bd,QF,look,aput,Qm,QH,Qg,ty,↓reduceIte,Nat.reduceEqDiff,Nat.reduceAdd,Nat.reduceSub,Nat.reduceMul,Int.reduceLT,Int.reduceLE,Int.reduceNeg,Int.reduceToNat,reduceCtorEq,Nat.reduceBEq,Nat.reduceBNe,Qk,Qe,Value.cells,am,mm,keep, lu]
  refine ACalls.mono (clone_calls v b H hv (by omega)) ?_
  rintro w H1 ⟨o1, e1⟩
  have lu1 := alen_sl (P := Try.prog) (T := 85) (by simp only [ty]) (hu.mono e1)
  rw [List.length_map] at lu1
  obtain ⟨s2, H2, ha2, o2, k2⟩ := OS.app1 (P := Try.prog) (t := 85) (tx := 85) (bytes := 1) (c := U8 (UInt8.ofNat s.length)) (by simp only [ty]) (by simp only [ty]) o1 rfl (by rw [List.length_map]; omega) (by decide) e1.length
  have x2 : Ext H H2 := k2.ext (Nat.le_refl _) e1
  obtain ⟨s3, H3, ha3, o3, k3⟩ := OS.app (P := Try.prog) (t := 85) (tx := 85) (bytes := 1) (by simp only [ty]) (by simp only [ty]) o2 (hu.mono x2) (all8 _) (by rw [List.length_append, List.length_map, List.length_map, List.length_singleton]; omega) (by decide) x2.length
  have x3 : Ext H H3 := k3.ext (Nat.le_refl _) x2
  have lu3 := alen_sl (P := Try.prog) (T := 85) (by simp only [ty]) (hu.mono x3)
  rw [List.length_map] at lu3
  have lu2 := alen_sl (P := Try.prog) (T := 85) (by simp only [ty]) (hu.mono x2)
  rw [List.length_map] at lu2
  obtain ⟨s4, H4, ha4, o4, k4⟩ := OS.appX (P := Try.prog) (t := 85) (tx := 3) (bytes := 1) (by simp only [ty]) o3 (srcN (m := m - s.length) (v := .int .u8 0) (k := .i64) (e := 5) (by kernel_rfl) (by kernel_rfl) (by kernel_rfl) (by omega) (by omega)) (by simp only [List.length_append, List.length_map, List.length_singleton, List.length_replicate]; omega) (by decide) x3.length
  have x4 : Ext H H4 := k4.ext (Nat.le_refl _) x3
  have hfl : b.map U8 ++ [U8 (UInt8.ofNat s.length)] ++ s.map U8 ++ List.replicate (m - s.length) (.int .u8 0) = (putT b s (m : Int)).map U8 := by
    rw [QO, putT, Int.toNat_natCast]; simp
  rw [hfl] at o4
  have hsm : s.length ≤ m := by omega
  have hwn := wnat8 s.length
  try simp -implicitDefEqProofs (disch := (try simp only [sl]); try omega) only [sm,QJ,Qj,Qi,Qq,QC,Qz,bd,QF,look,aput,Qm,QH,Qg,ty,↓reduceIte,Nat.reduceEqDiff,Nat.reduceAdd,Nat.reduceSub,Nat.reduceMul,Int.reduceLT,Int.reduceLE,Int.reduceNeg,Int.reduceToNat,reduceCtorEq,Nat.reduceBEq,Nat.reduceBNe,Qk,Qe,Value.cells,am,mm,keep, lu, lu1, hwn, ha2]
  try (refine hK_ _ _ ?_; clear hK_ K_; repeat first | refine QL ?_ | refine QM ?_)
  iterate 2 ((repeat first | refine Qo ?_ | refine Qn ?_); (first | (refine QK (by kernel_rfl) ?_; intro K_ hK_; simp -implicitDefEqProofs (disch := (try simp only [sl]); try omega) only [sm,QJ,Qj,Qi,Qq,QC,bd,look,aput,Qm,QI,abin,anil,ty,↓reduceIte,Nat.reduceEqDiff,Nat.reduceAdd,Nat.reduceSub,Nat.reduceMul,Int.reduceLT,Int.reduceLE,Int.reduceNeg,Int.reduceToNat,reduceCtorEq,Nat.reduceBEq,Nat.reduceBNe,Qk,Qe,Value.cells,am,mm,keep, lu, lu2, lu3, ha3, ha4, hsm]; refine hK_ _ _ ?_; clear hK_ K_; repeat first | refine QL ?_ | refine QM ?_)))
  first | refine awp_ret ?_ | skip
  show ∃ v, aresults Try.prog Try.f60 _ _ = some v ∧ _
  rw [aresults_2 (r := .tmp 6) (s := .tmp 7) (by kernel_rfl)]
  simp -implicitDefEqProofs (disch := (try simp only [sl]); try omega) only [aresult, Option.some.injEq, exists_eq_left', sm,Qj,Qi,Qq,QC,Qz,bd,QF,look,aput,QB,Qf,QA,ty,↓reduceIte,Nat.reduceEqDiff,Nat.reduceAdd,Nat.reduceSub,Nat.reduceMul,Int.reduceLT,Int.reduceLE,Int.reduceNeg,Int.reduceToNat,reduceCtorEq,Nat.reduceBEq,Nat.reduceBNe,Qk,Qe,Value.cells,am,mm,keep, lu]
  exact ⟨.inl ⟨hok, _, rfl, o4⟩, x4⟩
theorem text_u (v u : Value) (b s : List UInt8) (z : Int) (H : AH) (hv : SL H v (b.map U8)) (hu : SL H u (s.map U8)) (hb : b.length ≤ 1099511627776) (hs : s.length ≤ 9223372036854775807) :
    ACalls Try.prog 60 #[v, u, .int .i64 z] H fun w H' => ∃ x, w = .tuple #[x, .int .i64 (eT s z)] ∧ OS H.length H' x ((tT b s z).map U8) ∧ Ext H H' := ACalls.mono (text_calls v u b s z H hv hu hb hs) fun _ _ h => uni h
end Go.Proofs.Ytldfnfpinemedaa
