/- What each statement of pack asks besides: far, alive. -/
import Derived.Test.YtfhbieimffjjkaaDoorPk6
import Derived.Test.YtfhbieimffjjkaaDoorPk7
import Derived.Test.YtfhbieimffjjkaaDoorCsm
import Derived.Test.YtfhbieimffjjkaaDoorIn
namespace Go.Proofs.YtfhbieimffjjkaaDoor
open Go Go.RowKit
--hide
set_option linter.unusedSimpArgs false
set_option linter.unusedVariables false
set_option maxRecDepth 4000
theorem pfar_calls (v : Value) (b : List UInt8) (H : AH) (hv : SL H v (b.map U8)) :
    ACalls Tryd.prog 15 #[v] H fun w H' => w = .bool (decide (b.length > 1000)) ∧ H' = H := by
  have lv := alen_sl (P := Tryd.prog) (T := 22) (by simp only [ty]) hv
  rw [List.length_map] at lv
  refine acalls_of_body Tryd.func15 rfl Tryd.ntmps15 (by simp) ?_
  simp only [argsT, Nat.reduceAdd]
  iterate 2 ((repeat first | refine Qo ?_ | refine Qn ?_); (first | (refine QK (by kernel_rfl) ?_; intro K_ hK_; simp -implicitDefEqProofs (disch := (try simp only [sl]); try omega) only [sm,QJ,Qj,Qi,Qq,QC,bd,look,aput,QI,abin,anil,ty,↓reduceIte,Nat.reduceEqDiff,Nat.reduceAdd,Nat.reduceSub,Nat.reduceMul,Int.reduceLT,Int.reduceLE,Int.reduceNeg,Int.reduceToNat,reduceCtorEq,Nat.reduceBEq,Nat.reduceBNe,Qk,Qe,Value.cells,am,mm,keep, lv]; refine hK_ _ _ ?_; clear hK_ K_; repeat first | refine QL ?_ | refine QM ?_)))
  first | refine awp_ret ?_ | skip
  show ∃ v, aresults Tryd.prog Tryd.f15 _ _ = some v ∧ _
  rw [aresults_1 (r := .tmp 2) (by kernel_rfl)]
  simp -implicitDefEqProofs (disch := (try simp only [sl]); try omega) only [aresult, Option.some.injEq, exists_eq_left', sm,Qj,Qi,Qq,QC,Qz,bd,QF,look,aput,QB,Qf,QA,ty,↓reduceIte,Nat.reduceEqDiff,Nat.reduceAdd,Nat.reduceSub,Nat.reduceMul,Int.reduceLT,Int.reduceLE,Int.reduceNeg,Int.reduceToNat,reduceCtorEq,Nat.reduceBEq,Nat.reduceBNe,Qk,Qe,Value.cells,am,mm,keep]
theorem lit1p {H : AH} {g : Nat} (b : UInt8) {c : Int} (hg : H[g]? = some (.own [.int .u8 c])) (hc : c = (b.toNat : Int)) : SL H (.slice (some ⟨g, 0, none⟩) 1 1) ([b].map U8) := by
  subst hc
  exact SL.own 1 rfl hg
set_option maxHeartbeats 8000000 in
theorem palive_calls (H : AH) : ACalls Tryd.prog 16 #[] H fun w H' => w = .bool true ∧ Ext H H' := by
  have h300 : U64 300 = .int .u64 300 := rfl
  have h400 : U64 400 = .int .u64 400 := rfl
  have fo_ : True := trivial
  have N_ := Now.start H
  have f_ := N_.has
  simp only [Has] at f_
  refine acalls_of_body Tryd.func16 rfl Tryd.ntmps16 (by simp) ?_
  simp only [argsT, Nat.reduceAdd]
  iterate 1 ((repeat first | refine Qo ?_ | refine Qn ?_); (first | (refine QK (by kernel_rfl) ?_; intro K_ hK_; simp -implicitDefEqProofs (disch := (try simp only [sl]); try omega) only [sm,QJ,Qj,Qi,Qq,QC,bd,look,aput,Qm,ty,↓reduceIte,Nat.reduceEqDiff,Nat.reduceAdd,Nat.reduceSub,Nat.reduceMul,Int.reduceLT,Int.reduceLE,Int.reduceNeg,Int.reduceToNat,reduceCtorEq,Nat.reduceBEq,Nat.reduceBNe,Qk,Qe,Value.cells,am,mm,keep, f_, fo_]; refine hK_ _ _ ?_; clear hK_ K_; repeat first | refine QL ?_ | refine QM ?_)))
  (repeat first | refine Qo ?_ | refine Qn ?_); refine QK (by kernel_rfl) ?_; intro K_ hK_; simp -implicitDefEqProofs (disch := (try simp only [sl]); try omega) only [sm,QJ,Qj,Qi,Qq,QC,bd,look,aput,Qm,ty,↓reduceIte,Nat.reduceEqDiff,Nat.reduceAdd,Nat.reduceSub,Nat.reduceMul,Int.reduceLT,Int.reduceLE,Int.reduceNeg,Int.reduceToNat,reduceCtorEq,Nat.reduceBEq,Nat.reduceBNe,Qk,Qe,Value.cells,am,mm,keep, f_, fo_]
  refine ACalls.mono (num_calls _ [] 300 2 H (.inl ⟨rfl, rfl⟩) (Nat.zero_le _) (by decide) (by decide)) ?_
  rintro w H1 ⟨o1, e1⟩
  rw [show ([] ++ numB 300 (sizedN 2) : List UInt8) = [44, 1] from rfl] at o1
  replace N_ := N_.grow e1
  clear fo_; have fo_ := f_; clear f_
  have f_ := N_.has
  simp only [Has] at f_
  try simp -implicitDefEqProofs (disch := (try simp only [sl]); try omega) only [sm,QJ,Qj,Qi,Qq,QC,bd,look,aput,Qm,ty,↓reduceIte,Nat.reduceEqDiff,Nat.reduceAdd,Nat.reduceSub,Nat.reduceMul,Int.reduceLT,Int.reduceLE,Int.reduceNeg,Int.reduceToNat,reduceCtorEq,Nat.reduceBEq,Nat.reduceBNe,Qk,Qe,Value.cells,am,mm,keep, f_, fo_]
  try (refine hK_ _ _ ?_; clear hK_ K_; repeat first | refine QL ?_ | refine QM ?_)
  (repeat first | refine Qo ?_ | refine Qn ?_); refine QK (by kernel_rfl) ?_; intro K_ hK_; simp -implicitDefEqProofs (disch := (try simp only [sl]); try omega) only [sm,QJ,Qj,Qi,Qq,QC,Qz,bd,QF,look,aput,Qm,QH,Qg,Qh,ty,↓reduceIte,Nat.reduceEqDiff,Nat.reduceAdd,Nat.reduceSub,Nat.reduceMul,Int.reduceLT,Int.reduceLE,Int.reduceNeg,Int.reduceToNat,reduceCtorEq,Nat.reduceBEq,Nat.reduceBNe,Qk,Qe,Value.cells,am,mm,keep, f_, fo_]
  first | refine ACalls.snap8 N_ ?_ | refine ACalls.snap7 N_ ?_ | refine ACalls.snap6 N_ ?_ | refine ACalls.snap5 N_ ?_ | refine ACalls.snap4 N_ ?_ | refine ACalls.snap3 N_ ?_ | refine ACalls.snap2 N_ ?_ | refine ACalls.snap1 N_ ?_
  clear fo_; have fo_ := f_; clear f_ N_; intro H2 xH2 lH2 N_
  have f_ := N_.has
  simp only [Has] at f_
  have tp : SL H2 (.slice (some ⟨H1.length, 0, none⟩) 1 1) (([97] : List UInt8).map U8) := lit1p 97 f_.1.2.1 rfl
  refine ACalls.mono (text_calls w _ [44, 1] [97] 2 H2 (o1.sl.mono xH2) tp (by decide) (by decide)) ?_
  rintro w2 H3 ⟨hw2, e3⟩
  obtain ⟨-, c, rfl, o3⟩ := hw2.resolve_right (fun h => h.1 (by decide))
  rw [show putT [44, 1] [97] 2 = [44, 1, 1, 97, 0] from rfl] at o3
  replace N_ := N_.grow e3
  clear fo_; have fo_ := f_; clear f_
  have f_ := N_.has
  simp only [Has] at f_
  try simp -implicitDefEqProofs (disch := (try simp only [sl]); try omega) only [sm,QJ,Qj,Qi,Qq,QC,Qz,bd,QF,look,aput,Qm,QH,Qg,Qh,ty,↓reduceIte,Nat.reduceEqDiff,Nat.reduceAdd,Nat.reduceSub,Nat.reduceMul,Int.reduceLT,Int.reduceLE,Int.reduceNeg,Int.reduceToNat,reduceCtorEq,Nat.reduceBEq,Nat.reduceBNe,Qk,Qe,Value.cells,am,mm,keep, f_, fo_]
  try (refine hK_ _ _ ?_; clear hK_ K_; repeat first | refine QL ?_ | refine QM ?_)
  (repeat first | refine Qo ?_ | refine Qn ?_); refine QK (by kernel_rfl) ?_; intro K_ hK_; simp -implicitDefEqProofs (disch := (try simp only [sl]); try omega) only [sm,QJ,Qj,Qi,Qq,QC,bd,look,aput,Qm,ty,↓reduceIte,Nat.reduceEqDiff,Nat.reduceAdd,Nat.reduceSub,Nat.reduceMul,Int.reduceLT,Int.reduceLE,Int.reduceNeg,Int.reduceToNat,reduceCtorEq,Nat.reduceBEq,Nat.reduceBNe,Qk,Qe,Value.cells,am,mm,keep, f_, fo_]
  refine ACalls.mono (rdread_calls c [44, 1, 1, 97, 0] H3 o3.sl H3.length o3.sl.blk) ?_
  rintro _ H4 ⟨g, rfl, hg, i4, e4⟩
  replace N_ := N_.grow e4
  clear fo_; have fo_ := f_; clear f_
  have f_ := N_.has
  simp only [Has] at f_
  try simp -implicitDefEqProofs (disch := (try simp only [sl]); try omega) only [sm,QJ,Qj,Qi,Qq,QC,bd,look,aput,Qm,ty,↓reduceIte,Nat.reduceEqDiff,Nat.reduceAdd,Nat.reduceSub,Nat.reduceMul,Int.reduceLT,Int.reduceLE,Int.reduceNeg,Int.reduceToNat,reduceCtorEq,Nat.reduceBEq,Nat.reduceBNe,Qk,Qe,Value.cells,am,mm,keep, f_, fo_]
  try (refine hK_ _ _ ?_; clear hK_ K_; repeat first | refine QL ?_ | refine QM ?_)
  iterate 1 ((repeat first | refine Qo ?_ | refine Qn ?_); (first | (refine QK (by kernel_rfl) ?_; intro K_ hK_; simp -implicitDefEqProofs (disch := (try simp only [sl]); try omega) only [sm,QJ,Qj,Qi,Qq,QC,bd,look,aput,QI,abin,anil,ty,↓reduceIte,Nat.reduceEqDiff,Nat.reduceAdd,Nat.reduceSub,Nat.reduceMul,Int.reduceLT,Int.reduceLE,Int.reduceNeg,Int.reduceToNat,reduceCtorEq,Nat.reduceBEq,Nat.reduceBNe,Qk,Qe,Value.cells,am,mm,keep, f_, fo_]; refine hK_ _ _ ?_; clear hK_ K_; repeat first | refine QL ?_ | refine QM ?_)))
  repeat first | refine Qo ?_ | refine Qn ?_
  refine awp_if false rfl (by simp only [aeval_tmp, look, ↓reduceIte, Nat.reduceEqDiff]; try rfl) (fun h => absurd h (by decide)) (fun _ => ?_)
  iterate 1 ((repeat first | refine Qo ?_ | refine Qn ?_); (first | (refine QK (by kernel_rfl) ?_; intro K_ hK_; simp -implicitDefEqProofs (disch := (try simp only [sl]); try omega) only [sm,QJ,Qj,Qi,Qq,QC,bd,look,aput,Qm,ty,↓reduceIte,Nat.reduceEqDiff,Nat.reduceAdd,Nat.reduceSub,Nat.reduceMul,Int.reduceLT,Int.reduceLE,Int.reduceNeg,Int.reduceToNat,reduceCtorEq,Nat.reduceBEq,Nat.reduceBNe,Qk,Qe,Value.cells,am,mm,keep, f_, fo_]; refine hK_ _ _ ?_; clear hK_ K_; repeat first | refine QL ?_ | refine QM ?_) | (refine awp_skip ?_; repeat first | refine QL ?_ | refine QM ?_)))
  (repeat first | refine Qo ?_ | refine Qn ?_); refine QK (by kernel_rfl) ?_; intro K_ hK_; simp -implicitDefEqProofs (disch := (try simp only [sl]); try omega) only [sm,QJ,Qj,Qi,Qq,QC,bd,look,aput,Qm,ty,↓reduceIte,Nat.reduceEqDiff,Nat.reduceAdd,Nat.reduceSub,Nat.reduceMul,Int.reduceLT,Int.reduceLE,Int.reduceNeg,Int.reduceToNat,reduceCtorEq,Nat.reduceBEq,Nat.reduceBNe,Qk,Qe,Value.cells,am,mm,keep, f_, fo_]
  rw [← h400]
  obtain ⟨gc, rfl, hgc, hgc2, hgc3⟩ := o3.at (by decide)
  have hcg : gc ≠ g := by omega
  replace N_ := N_.know (e4 _ _ hgc)
  clear fo_; have fo_ := f_; clear f_
  have f_ := N_.has
  simp only [Has] at f_
  have hgH : H.length ≤ g := by have := N_.ext.length; have := e3.length; have := e1.length; omega
  refine ACalls.mono (rdnum_calls g 2 400 _ H4 H3.length hg i4 (by decide) (by decide) (by decide)) ?_
  rintro _ H5 ⟨rfl, i5, b5⟩
  rw [show Rd.num ⟨[44, 1, 1, 97, 0], 0⟩ (sizedN 2) 400 = 300 from rfl]
  rw [show Rd.num' ⟨[44, 1, 1, 97, 0], 0⟩ (sizedN 2) 400 = ⟨[1, 97, 0], 0⟩ from rfl] at i5
  replace N_ := N_.but b5 (by omega) (by repeat first | exact List.forall_mem_nil _ | refine List.forall_mem_cons.2 ⟨by simp only []; omega, ?_⟩)
  clear fo_; have fo_ := f_; clear f_
  have f_ := N_.has
  simp only [Has] at f_
  try simp -implicitDefEqProofs (disch := (try simp only [sl]); try omega) only [sm,QJ,Qj,Qi,Qq,QC,bd,look,aput,Qm,ty,↓reduceIte,Nat.reduceEqDiff,Nat.reduceAdd,Nat.reduceSub,Nat.reduceMul,Int.reduceLT,Int.reduceLE,Int.reduceNeg,Int.reduceToNat,reduceCtorEq,Nat.reduceBEq,Nat.reduceBNe,Qk,Qe,Value.cells,am,mm,keep, f_, fo_]
  try (refine hK_ _ _ ?_; clear hK_ K_; repeat first | refine QL ?_ | refine QM ?_)
  (repeat first | refine Qo ?_ | refine Qn ?_); refine QK (by kernel_rfl) ?_; intro K_ hK_; simp -implicitDefEqProofs (disch := (try simp only [sl]); try omega) only [sm,QJ,Qj,Qi,Qq,QC,bd,look,aput,Qm,ty,↓reduceIte,Nat.reduceEqDiff,Nat.reduceAdd,Nat.reduceSub,Nat.reduceMul,Int.reduceLT,Int.reduceLE,Int.reduceNeg,Int.reduceToNat,reduceCtorEq,Nat.reduceBEq,Nat.reduceBNe,Qk,Qe,Value.cells,am,mm,keep, f_, fo_]
  refine ACalls.mono (rdtext_calls g 2 _ H5 H3.length hg i5 (by decide) (by decide) (by decide)) ?_
  rintro s H6 ⟨hs6, i6, b6, -⟩
  rw [show Rd.text ⟨[1, 97, 0], 0⟩ (placeN 2) = [97] from rfl] at hs6
  rw [show Rd.text' ⟨[1, 97, 0], 0⟩ (placeN 2) = ⟨[], 0⟩ from rfl] at i6
  replace N_ := N_.but b6 (by omega) (by repeat first | exact List.forall_mem_nil _ | refine List.forall_mem_cons.2 ⟨by simp only []; omega, ?_⟩)
  clear fo_; have fo_ := f_; clear f_
  have f_ := N_.has
  simp only [Has] at f_
  obtain ⟨gs, os, es, cs, rfl, hcs, hgs, hs1, hsk, hsk0⟩ := hs6.bytes (by decide)
  obtain ⟨cs', hcs', -, -, hbo⟩ := hs6.str (by decide)
  rw [hcs] at hcs'; cases hcs'
  have hbo : bytesOf (List.take 1 (List.drop os cs)) = some [97] := hbo
  have has : astr .eql ⟨#[97]⟩ ⟨#[97]⟩ = some (.bool true) := by simp [astr]
  have h44 : ((UInt8.toNat 44 : Nat) : Int) = 44 := rfl
  have h3x : ((UInt64.toNat 300 : Nat) : Int) = 300 := rfl
  have hii : ∀ n : Int, (n == n) = true := fun n => by simp
  try simp -implicitDefEqProofs (disch := (try simp only [sl]); try omega) only [sm,QJ,Qj,Qi,Qq,QC,bd,look,aput,Qm,ty,↓reduceIte,Nat.reduceEqDiff,Nat.reduceAdd,Nat.reduceSub,Nat.reduceMul,Int.reduceLT,Int.reduceLE,Int.reduceNeg,Int.reduceToNat,reduceCtorEq,Nat.reduceBEq,Nat.reduceBNe,Qk,Qe,Value.cells,am,mm,keep, f_, fo_]
  try (refine hK_ _ _ ?_; clear hK_ K_; repeat first | refine QL ?_ | refine QM ?_)
  (repeat first | refine Qo ?_ | refine Qn ?_); refine QK (by kernel_rfl) ?_; intro K_ hK_; simp -implicitDefEqProofs (disch := (try simp only [sl]); try omega) only [sm,QJ,Qj,Qi,Qq,QC,Qz,bd,QF,look,aput,Qm,QH,Qg,QI,abin,anil,Qb,QA,ty,↓reduceIte,Nat.reduceEqDiff,Nat.reduceAdd,Nat.reduceSub,Nat.reduceMul,Int.reduceLT,Int.reduceLE,Int.reduceNeg,Int.reduceToNat,reduceCtorEq,Nat.reduceBEq,Nat.reduceBNe,Qk,Qe,Value.cells,am,mm,keep, f_, fo_, hcs, hbo, has, aint, h44, h3x, hii]
  refine ACalls.mono (rdrest_calls g _ H6 H3.length hg i6 (by decide)) ?_
  rintro _ H7 ⟨rfl, i7, b7⟩
  rw [show Rd.rest ⟨[], 0⟩ = ⟨[], 0⟩ from rfl] at i7 ⊢
  try simp -implicitDefEqProofs (disch := (try simp only [sl]); try omega) only [sm,QJ,Qj,Qi,Qq,QC,Qz,bd,QF,look,aput,Qm,QH,Qg,QI,abin,anil,Qb,QA,ty,↓reduceIte,Nat.reduceEqDiff,Nat.reduceAdd,Nat.reduceSub,Nat.reduceMul,Int.reduceLT,Int.reduceLE,Int.reduceNeg,Int.reduceToNat,reduceCtorEq,Nat.reduceBEq,Nat.reduceBNe,Qk,Qe,Value.cells,am,mm,keep, f_, fo_, aint]
  try (refine hK_ _ _ ?_; clear hK_ K_; repeat first | refine QL ?_ | refine QM ?_)
  refine ACalls.mono (rdleft_calls g _ H7 H3.length hg i7) ?_
  rintro _ _ ⟨rfl, hHH⟩
  rw [hHH]
  clear hHH
  simp -implicitDefEqProofs (disch := (try simp only [sl]); try omega) only [sm,QJ,Qj,Qi,Qq,QC,Qz,bd,QF,look,aput,Qm,QH,Qg,QI,abin,anil,Qb,QA,ty,↓reduceIte,Nat.reduceEqDiff,Nat.reduceAdd,Nat.reduceSub,Nat.reduceMul,Int.reduceLT,Int.reduceLE,Int.reduceNeg,Int.reduceToNat,reduceCtorEq,Nat.reduceBEq,Nat.reduceBNe,Qk,Qe,Value.cells,am,mm,keep, f_, fo_]
  try (refine hK_ _ _ ?_; clear hK_ K_; repeat first | refine QL ?_ | refine QM ?_)
  rw [show Rd.left ⟨[], 0⟩ = 0 from rfl]
  try simp -implicitDefEqProofs (disch := (try simp only [sl]); try omega) only [sm,QJ,Qj,Qi,Qq,QC,Qz,bd,QF,look,aput,Qm,QH,Qg,QI,abin,anil,Qb,QA,ty,↓reduceIte,Nat.reduceEqDiff,Nat.reduceAdd,Nat.reduceSub,Nat.reduceMul,Int.reduceLT,Int.reduceLE,Int.reduceNeg,Int.reduceToNat,reduceCtorEq,Nat.reduceBEq,Nat.reduceBNe,Qk,Qe,Value.cells,am,mm,keep, f_, fo_, aint]
  try (refine hK_ _ _ ?_; clear hK_ K_; repeat first | refine QL ?_ | refine QM ?_)
  first | refine awp_ret ?_ | skip
  show ∃ v, aresults Tryd.prog Tryd.f16 _ _ = some v ∧ _
  rw [aresults_1 (r := .tmp 0) (by kernel_rfl)]
  simp -implicitDefEqProofs (disch := (try simp only [sl]); try omega) only [aresult, Option.some.injEq, exists_eq_left', sm,Qj,Qi,Qq,QC,Qz,bd,QF,look,aput,QB,Qf,QA,ty,↓reduceIte,Nat.reduceEqDiff,Nat.reduceAdd,Nat.reduceSub,Nat.reduceMul,Int.reduceLT,Int.reduceLE,Int.reduceNeg,Int.reduceToNat,reduceCtorEq,Nat.reduceBEq,Nat.reduceBNe,Qk,Qe,Value.cells,am,mm,keep, f_, fo_]
  replace N_ := N_.but b7 (by omega) (by repeat first | exact List.forall_mem_nil _ | refine List.forall_mem_cons.2 ⟨by simp only []; omega, ?_⟩)
  clear fo_; have fo_ := f_; clear f_
  have f_ := N_.has
  simp only [Has] at f_
  exact N_.ext
end Go.Proofs.YtfhbieimffjjkaaDoor
