/- dirent: alive. -/
import Derived.Test.YtldfnfpinemedaaDid
import Derived.Test.YtldfnfpinemedaaDi4
namespace Go.Proofs.Ytldfnfpinemedaa
open Go Go.RowKit
--hide
set_option linter.unusedSimpArgs false
set_option linter.unusedVariables false
set_option maxRecDepth 4000
def eA : En := ([97], 1)
def eB : En := ([98], 2)
theorem eB_in : inEE [] eB = 0 ∧ inEL [] eB = [eB] := by
  have h : inEE [] eB = 0 := by
    rw [inEE, if_pos]
    · rfl
    · exact ⟨fun j hj => absurd hj (by simp), by decide, by decide, by decide, by decide⟩
  exact ⟨h, by rw [inEL, if_pos h]; rfl⟩
theorem eB_may : mayE [eB] := by
  intro j hj
  have hj0 : j = 0 := by simp at hj; exact hj
  subst hj0
  exact ⟨⟨by decide, by decide, by decide, by decide⟩, rfl⟩
theorem eA_in : inEE [eB] eA = 0 ∧ inEL [eB] eA = [eA, eB] := by
  have h : inEE [eB] eA = 0 := by
    rw [inEE, if_pos]
    · rfl
    · exact ⟨eB_may, by decide, by decide, by decide, by decide⟩
  exact ⟨h, by rw [inEL, if_pos h]; rfl⟩
theorem eAB_may : mayE [eA, eB] := by
  intro j hj
  have hj0 : j = 0 ∨ j = 1 := by simp at hj; omega
  rcases hj0 with rfl | rfl
  · exact ⟨⟨by decide, by decide, by decide, by decide⟩, rfl⟩
  · exact ⟨⟨by decide, by decide, by decide, by decide⟩, rfl⟩
set_option maxHeartbeats 8000000 in
theorem aliveE_calls (H : AH) : ACalls Try.prog 23 #[] H fun w H' => w = .bool true ∧ Ext H H' := by
  have hSb : (#[.string ⟨#[98]⟩, .int .i64 2] : Array Value) = (enc eB).toArray := rfl
  have hSa : (#[.string ⟨#[97]⟩, .int .i64 1] : Array Value) = (enc eA).toArray := rfl
  have hn : (⟨#[98]⟩ : ByteArray) = bs eB.1 := rfl
  obtain ⟨hbE, hbL⟩ := eB_in
  obtain ⟨haE, haL⟩ := eA_in
  have hE : leE [eA, eB] = 0 := by rw [leE, if_pos eAB_may]
  have hK : leK [eA, eB] = catE [eA, eB] := by rw [leK, if_pos eAB_may]
  have hcl : (catE [eA, eB]).length = 52 := catE_length (mayE_one eAB_may)
  have hb0 : (catE [eA, eB]).getD 0 0 = 1 := rfl
  have hfind : ∀ w, FdR [eA, eB] eB.1 w → w = .tuple #[.int .i64 2, .bool true] := by
    rintro w (⟨x, hx, h1, rfl⟩ | ⟨h, _⟩)
    · simp only [List.mem_cons, List.not_mem_nil, or_false] at hx
      rcases hx with rfl | rfl
      · cases h1
      · rfl
    · cases h
  generalize hgA : eA = a at *
  generalize hgB : eB = b at *
  clear hgA hgB
  generalize hP : catE [a, b] = P at *
  have hii : ∀ n : Int, (n == n) = true := fun n => by simp
  have h0 : SLn H (.slice none 0 0) ([] : List En).length (flE []) := .inl ⟨rfl, rfl, rfl⟩
  have fo_ : True := trivial
  have N_ := Now.start H
  have f_ := N_.has
  simp only [Has] at f_
  refine acalls_of_body Try.func23 rfl Try.ntmps23 (by simp) ?_
  simp only [argsT, Nat.reduceAdd]
  iterate 1 ((repeat first | refine Qo ?_ | refine Qn ?_); (first | (refine QK (by kernel_rfl) ?_; intro K_ hK_; simp -implicitDefEqProofs (disch := (try simp only [sl]); try omega) only [sm,QJ,Qj,Qi,Qq,QC,bd,look,aput,Qm,Qh,ty,↓reduceIte,Nat.reduceEqDiff,Nat.reduceAdd,Nat.reduceSub,Nat.reduceMul,Int.reduceLT,Int.reduceLE,Int.reduceNeg,Int.reduceToNat,reduceCtorEq,Nat.reduceBEq,Nat.reduceBNe,Qk,Qe,Value.cells,am,mm,keep, f_, fo_, aint, bd, hSa, hSb, hii]; refine hK_ _ _ ?_; clear hK_ K_; repeat first | refine QL ?_ | refine QM ?_)))
  (repeat first | refine Qo ?_ | refine Qn ?_); refine QK (by kernel_rfl) ?_; intro K_ hK_; simp -implicitDefEqProofs (disch := (try simp only [sl]); try omega) only [sm,QJ,Qj,Qi,Qq,QC,bd,look,aput,Qm,Qh,ty,↓reduceIte,Nat.reduceEqDiff,Nat.reduceAdd,Nat.reduceSub,Nat.reduceMul,Int.reduceLT,Int.reduceLE,Int.reduceNeg,Int.reduceToNat,reduceCtorEq,Nat.reduceBEq,Nat.reduceBNe,Qk,Qe,Value.cells,am,mm,keep, f_, fo_, aint, bd, hSa, hSb, hii]
  refine ACalls.mono (insertE_calls _ [] b H h0 (by simp)) ?_
  rintro _ H1 ⟨⟨x, rfl, d1⟩, e1⟩
  rw [hbE]
  rw [hbL] at d1
  replace N_ := N_.grow e1
  clear fo_; have fo_ := f_; clear f_
  have f_ := N_.has
  simp only [Has] at f_
  try simp -implicitDefEqProofs (disch := (try simp only [sl]); try omega) only [sm,QJ,Qj,Qi,Qq,QC,bd,look,aput,Qm,Qh,ty,↓reduceIte,Nat.reduceEqDiff,Nat.reduceAdd,Nat.reduceSub,Nat.reduceMul,Int.reduceLT,Int.reduceLE,Int.reduceNeg,Int.reduceToNat,reduceCtorEq,Nat.reduceBEq,Nat.reduceBNe,Qk,Qe,Value.cells,am,mm,keep, f_, fo_, aint, bd, hSa, hSb, hii]
  try (refine hK_ _ _ ?_; clear hK_ K_; repeat first | refine QL ?_ | refine QM ?_)
  (repeat first | refine Qo ?_ | refine Qn ?_); refine QK (by kernel_rfl) ?_; intro K_ hK_; simp -implicitDefEqProofs (disch := (try simp only [sl]); try omega) only [sm,QJ,Qj,Qi,Qq,QC,bd,look,aput,Qm,Qh,ty,↓reduceIte,Nat.reduceEqDiff,Nat.reduceAdd,Nat.reduceSub,Nat.reduceMul,Int.reduceLT,Int.reduceLE,Int.reduceNeg,Int.reduceToNat,reduceCtorEq,Nat.reduceBEq,Nat.reduceBNe,Qk,Qe,Value.cells,am,mm,keep, f_, fo_, aint, bd, hSa, hSb, hii]
  refine ACalls.mono (insertE_calls x [b] a H1 (d1.sln (enc_hl _)) (by simp)) ?_
  rintro _ H2 ⟨⟨y, rfl, d2⟩, e2⟩
  rw [haE]
  rw [haL] at d2
  replace N_ := N_.grow e2
  clear fo_; have fo_ := f_; clear f_
  have f_ := N_.has
  simp only [Has] at f_
  try simp -implicitDefEqProofs (disch := (try simp only [sl]); try omega) only [sm,QJ,Qj,Qi,Qq,QC,bd,look,aput,Qm,Qh,ty,↓reduceIte,Nat.reduceEqDiff,Nat.reduceAdd,Nat.reduceSub,Nat.reduceMul,Int.reduceLT,Int.reduceLE,Int.reduceNeg,Int.reduceToNat,reduceCtorEq,Nat.reduceBEq,Nat.reduceBNe,Qk,Qe,Value.cells,am,mm,keep, f_, fo_, aint, bd, hSa, hSb, hii]
  try (refine hK_ _ _ ?_; clear hK_ K_; repeat first | refine QL ?_ | refine QM ?_)
  (repeat first | refine Qo ?_ | refine Qn ?_); refine QK (by kernel_rfl) ?_; intro K_ hK_; simp -implicitDefEqProofs (disch := (try simp only [sl]); try omega) only [sm,QJ,Qj,Qi,Qq,QC,bd,look,aput,Qm,Qh,ty,↓reduceIte,Nat.reduceEqDiff,Nat.reduceAdd,Nat.reduceSub,Nat.reduceMul,Int.reduceLT,Int.reduceLE,Int.reduceNeg,Int.reduceToNat,reduceCtorEq,Nat.reduceBEq,Nat.reduceBNe,Qk,Qe,Value.cells,am,mm,keep, f_, fo_, aint, bd, hSa, hSb, hii]
  refine ACalls.mono (layE_calls y [a, b] H2 (d2.sln (enc_hl _)) (by simp)) ?_
  rintro _ H3 ⟨⟨z, rfl, o3⟩, e3⟩
  rw [hE]
  rw [hK] at o3
  replace N_ := N_.grow e3
  clear fo_; have fo_ := f_; clear f_
  have f_ := N_.has
  simp only [Has] at f_
  try simp -implicitDefEqProofs (disch := (try simp only [sl]); try omega) only [sm,QJ,Qj,Qi,Qq,QC,bd,look,aput,Qm,Qh,ty,↓reduceIte,Nat.reduceEqDiff,Nat.reduceAdd,Nat.reduceSub,Nat.reduceMul,Int.reduceLT,Int.reduceLE,Int.reduceNeg,Int.reduceToNat,reduceCtorEq,Nat.reduceBEq,Nat.reduceBNe,Qk,Qe,Value.cells,am,mm,keep, f_, fo_, aint, bd, hSa, hSb, hii]
  try (refine hK_ _ _ ?_; clear hK_ K_; repeat first | refine QL ?_ | refine QM ?_)
  (repeat first | refine Qo ?_ | refine Qn ?_); refine QK (by kernel_rfl) ?_; intro K_ hK_; simp -implicitDefEqProofs (disch := (try simp only [sl]); try omega) only [sm,QJ,Qj,Qi,Qq,QC,bd,look,aput,Qm,Qh,ty,↓reduceIte,Nat.reduceEqDiff,Nat.reduceAdd,Nat.reduceSub,Nat.reduceMul,Int.reduceLT,Int.reduceLE,Int.reduceNeg,Int.reduceToNat,reduceCtorEq,Nat.reduceBEq,Nat.reduceBNe,Qk,Qe,Value.cells,am,mm,keep, f_, fo_, aint, bd, hSa, hSb, hii]
  rw [hn]
  refine ACalls.mono (findE_calls y [a, b] b.1 H3 ((d2.sln (enc_hl _)).mono e3) (by simp)) ?_
  rintro w H4 ⟨hw, e4⟩
  obtain rfl := hfind _ hw
  replace N_ := N_.grow e4
  clear fo_; have fo_ := f_; clear f_
  have f_ := N_.has
  simp only [Has] at f_
  have lz := alen_sl (P := Try.prog) (T := 85) (by simp only [ty]) o3.sl
  rw [List.length_map, hcl] at lz
  obtain ⟨g, o, e', cs, rfl, hcs, hg, h1, hk1, hk0⟩ := (o3.sl.mono e4).bytes (by omega)
  have q0 : cs[o]? = some (.int .u8 1) := by rw [hk0, hb0]; rfl
  rw [hcl] at *
  try simp -implicitDefEqProofs (disch := (try simp only [sl]); try omega) only [sm,QJ,Qj,Qi,Qq,QC,bd,look,aput,Qm,Qh,ty,↓reduceIte,Nat.reduceEqDiff,Nat.reduceAdd,Nat.reduceSub,Nat.reduceMul,Int.reduceLT,Int.reduceLE,Int.reduceNeg,Int.reduceToNat,reduceCtorEq,Nat.reduceBEq,Nat.reduceBNe,Qk,Qe,Value.cells,am,mm,keep, f_, fo_, aint, hii, lz, hcs, q0]
  try (refine hK_ _ _ ?_; clear hK_ K_; repeat first | refine QL ?_ | refine QM ?_)
  iterate 1 ((repeat first | refine Qo ?_ | refine Qn ?_); (first | (refine QK (by kernel_rfl) ?_; intro K_ hK_; simp -implicitDefEqProofs (disch := (try simp only [sl]); try omega) only [sm,QJ,Qj,Qi,Qq,QC,Qz,bd,QF,look,aput,QI,abin,anil,Qb,QA,ty,↓reduceIte,Nat.reduceEqDiff,Nat.reduceAdd,Nat.reduceSub,Nat.reduceMul,Int.reduceLT,Int.reduceLE,Int.reduceNeg,Int.reduceToNat,reduceCtorEq,Nat.reduceBEq,Nat.reduceBNe,Qk,Qe,Value.cells,am,mm,keep, f_, fo_, aint, hii, lz, hcs, q0]; refine hK_ _ _ ?_; clear hK_ K_; repeat first | refine QL ?_ | refine QM ?_)))
  first | refine awp_ret ?_ | skip
  show ∃ v, aresults Try.prog Try.f23 _ _ = some v ∧ _
  rw [aresults_1 (r := .tmp 0) (by kernel_rfl)]
  simp -implicitDefEqProofs (disch := (try simp only [sl]); try omega) only [aresult, Option.some.injEq, exists_eq_left', sm,Qj,Qi,Qq,QC,Qz,bd,QF,look,aput,QB,Qf,QA,ty,↓reduceIte,Nat.reduceEqDiff,Nat.reduceAdd,Nat.reduceSub,Nat.reduceMul,Int.reduceLT,Int.reduceLE,Int.reduceNeg,Int.reduceToNat,reduceCtorEq,Nat.reduceBEq,Nat.reduceBNe,Qk,Qe,Value.cells,am,mm,keep, f_, fo_, aint, hii, lz, hcs, q0]
  exact N_.ext
end Go.Proofs.Ytldfnfpinemedaa
