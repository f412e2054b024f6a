/- attr: alive. -/
import Derived.Test.YtfdpmffcdafmgaaDoorAtb
namespace Go.Proofs.YtfdpmffcdafmgaaDoor
open Go Go.RowKit
--hide
set_option linter.unusedSimpArgs false
set_option linter.unusedVariables false
set_option maxRecDepth 4000
def pA : Pr := ([97], [120])
theorem pA_one : oneP pA := ⟨by decide, by decide, by decide⟩
theorem pA_may : mayP [pA] := by
  refine ⟨fun j hj => ?_, by simp⟩
  have hj0 : j = 0 := by simp at hj; exact hj
  subst hj0
  exact ⟨pA_one, rfl⟩
theorem zb_okA : okA (zb 256) := by
  refine ⟨zb_length 256, by decide, fun i hi => ?_, ?_, fun j hj => ?_, ?_⟩
  · exact absurd hi (by have : nB (zb 256) = 0 := rfl; omega)
  · have : nB (zb 256) = 0 := rfl
    rw [this]; exact zer_zbA 255
  · have : nB (zb 256) = 0 := rfl
    rw [this] at hj; exact absurd hj (by rw [lsA_length]; omega)
  · have : nB (zb 256) = 0 := rfl
    rw [lsA_length, this]; decide
set_option maxHeartbeats 8000000 in
theorem palive_calls (H : AH) : ACalls Tryd.prog 8 #[] H fun w H' => w = .bool true ∧ Ext H H' := by
  have hSa : (#[.string ⟨#[97]⟩, .string ⟨#[120]⟩] : Array Value) = (prc pA).toArray := rfl
  have hn : (⟨#[97]⟩ : ByteArray) = bs pA.1 := rfl
  have hq : astr .eql (bs pA.2) ⟨#[120]⟩ = some (.bool true) := by simp only [astr, bs_list, ba_toList]; rfl
  have hp := pA_one
  have hm := pA_may
  have hb0 : (pgA [pA]).getD 0 0 = 1 := rfl
  have hE : ltE [pA] = 0 := by rw [ltE, if_pos hm]
  have hK : ltK [pA] = pgA [pA] := by rw [ltK, if_pos hm]
  have hpl := pgA_length hm
  have hz := zb_okA
  have hzE : paE (zb 256) = 0 := by rw [paE, if_pos (zb_length 256), if_pos hz]
  have hzL : paL (zb 256) = [] := by rw [paL, if_pos hz]; rfl
  generalize hgA : pA = p at *
  clear hgA
  generalize hP : pgA [p] = P at *
  have hii : ∀ n : Int, (n == n) = true := fun n => by simp
  have fo_ : True := trivial
  have N_ := Now.start H
  have f_ := N_.has
  simp only [Has] at f_
  refine acalls_of_body Tryd.func8 rfl Tryd.ntmps8 (by simp) ?_
  simp only [argsT, Nat.reduceAdd]
  iterate 1 ((repeat first | refine Qo ?_ | refine Qn ?_); (first | (refine QK (by kernel_rfl) ?_; intro K_ hK_; simp -implicitDefEqProofs (disch := (try simp only [sl]); try omega) only [sm,QJ,Qj,Qi,Qq,QC,bd,look,aput,Qm,Qh,ty,↓reduceIte,Nat.reduceEqDiff,Nat.reduceAdd,Nat.reduceSub,Nat.reduceMul,Int.reduceLT,Int.reduceLE,Int.reduceNeg,Int.reduceToNat,reduceCtorEq,Nat.reduceBEq,Nat.reduceBNe,Qk,Qe,Value.cells,am,mm,keep, f_, fo_, aint, bd, hSa, hii]; refine hK_ _ _ ?_; clear hK_ K_; repeat first | refine QL ?_ | refine QM ?_)))
  (repeat first | refine Qo ?_ | refine Qn ?_); refine QK (by kernel_rfl) ?_; intro K_ hK_; simp -implicitDefEqProofs (disch := (try simp only [sl]); try omega) only [sm,QJ,Qj,Qi,Qq,QC,bd,look,aput,Qm,Qh,ty,↓reduceIte,Nat.reduceEqDiff,Nat.reduceAdd,Nat.reduceSub,Nat.reduceMul,Int.reduceLT,Int.reduceLE,Int.reduceNeg,Int.reduceToNat,reduceCtorEq,Nat.reduceBEq,Nat.reduceBNe,Qk,Qe,Value.cells,am,mm,keep, f_, fo_, aint, bd, hSa, hii]
  refine ACalls.mono (set_one p H hp) ?_
  rintro _ H1 ⟨⟨x, rfl, o1⟩, e1⟩
  replace N_ := N_.grow e1
  clear fo_; have fo_ := f_; clear f_
  have f_ := N_.has
  simp only [Has] at f_
  have hx : SLn H1 x [p].length (flP [p]) := o1.sln
  try simp -implicitDefEqProofs (disch := (try simp only [sl]); try omega) only [sm,QJ,Qj,Qi,Qq,QC,bd,look,aput,Qm,Qh,ty,↓reduceIte,Nat.reduceEqDiff,Nat.reduceAdd,Nat.reduceSub,Nat.reduceMul,Int.reduceLT,Int.reduceLE,Int.reduceNeg,Int.reduceToNat,reduceCtorEq,Nat.reduceBEq,Nat.reduceBNe,Qk,Qe,Value.cells,am,mm,keep, f_, fo_, aint, bd, hSa, hii]
  try (refine hK_ _ _ ?_; clear hK_ K_; repeat first | refine QL ?_ | refine QM ?_)
  (repeat first | refine Qo ?_ | refine Qn ?_); refine QK (by kernel_rfl) ?_; intro K_ hK_; simp -implicitDefEqProofs (disch := (try simp only [sl]); try omega) only [sm,QJ,Qj,Qi,Qq,QC,bd,look,aput,Qm,Qh,ty,↓reduceIte,Nat.reduceEqDiff,Nat.reduceAdd,Nat.reduceSub,Nat.reduceMul,Int.reduceLT,Int.reduceLE,Int.reduceNeg,Int.reduceToNat,reduceCtorEq,Nat.reduceBEq,Nat.reduceBNe,Qk,Qe,Value.cells,am,mm,keep, f_, fo_, aint, bd, hSa, hii]
  rw [hn]
  refine ACalls.mono (get_one x p H1 hx) ?_
  rintro _ H2 ⟨rfl, e2⟩
  replace N_ := N_.grow e2
  clear fo_; have fo_ := f_; clear f_
  have f_ := N_.has
  simp only [Has] at f_
  try simp -implicitDefEqProofs (disch := (try simp only [sl]); try omega) only [sm,QJ,Qj,Qi,Qq,QC,bd,look,aput,Qm,Qh,ty,↓reduceIte,Nat.reduceEqDiff,Nat.reduceAdd,Nat.reduceSub,Nat.reduceMul,Int.reduceLT,Int.reduceLE,Int.reduceNeg,Int.reduceToNat,reduceCtorEq,Nat.reduceBEq,Nat.reduceBNe,Qk,Qe,Value.cells,am,mm,keep, f_, fo_, aint, bd, hSa, hii]
  try (refine hK_ _ _ ?_; clear hK_ K_; repeat first | refine QL ?_ | refine QM ?_)
  (repeat first | refine Qo ?_ | refine Qn ?_); refine QK (by kernel_rfl) ?_; intro K_ hK_; simp -implicitDefEqProofs (disch := (try simp only [sl]); try omega) only [sm,QJ,Qj,Qi,Qq,QC,bd,look,aput,Qm,Qh,ty,↓reduceIte,Nat.reduceEqDiff,Nat.reduceAdd,Nat.reduceSub,Nat.reduceMul,Int.reduceLT,Int.reduceLE,Int.reduceNeg,Int.reduceToNat,reduceCtorEq,Nat.reduceBEq,Nat.reduceBNe,Qk,Qe,Value.cells,am,mm,keep, f_, fo_, aint, bd, hSa, hii]
  refine ACalls.mono (play_calls x [p] H2 (hx.mono e2) (by simp)) ?_
  rintro _ H3 ⟨⟨y, rfl, o3⟩, e3⟩
  rw [hE]
  rw [hK] at o3
  replace N_ := N_.grow e3
  clear fo_; have fo_ := f_; clear f_
  have f_ := N_.has
  simp only [Has] at f_
  try simp -implicitDefEqProofs (disch := (try simp only [sl]); try omega) only [sm,QJ,Qj,Qi,Qq,QC,bd,look,aput,Qm,Qh,ty,↓reduceIte,Nat.reduceEqDiff,Nat.reduceAdd,Nat.reduceSub,Nat.reduceMul,Int.reduceLT,Int.reduceLE,Int.reduceNeg,Int.reduceToNat,reduceCtorEq,Nat.reduceBEq,Nat.reduceBNe,Qk,Qe,Value.cells,am,mm,keep, f_, fo_, aint, bd, hSa, hii]
  try (refine hK_ _ _ ?_; clear hK_ K_; repeat first | refine QL ?_ | refine QM ?_)
  have hmT : ∀ T, anew Tryd.prog (aeval T) (.makeSlice 23 (.const (.int .i64 256)) (.const (.int .i64 256))) = some ((zb 256).map U8, fun g => .slice (some ⟨g, 0, none⟩) 256 1) := fun T => by
    rw [anew_ms (size := 1) (bytes := 1) (z := #[.int .u8 0]) (by kernel_rfl) (show aeval T (.const (.int .i64 256)) = .int .i64 256 from rfl) (show aeval T (.const (.int .i64 256)) = .int .i64 256 from rfl) (by omega) (by omega) (by omega) (by omega) rfl, zeros1]
    rfl
  (repeat first | refine Qo ?_ | refine Qn ?_); refine QK (by kernel_rfl) ?_; intro K_ hK_; simp -implicitDefEqProofs (disch := (try simp only [sl]); try omega) only [sm,QJ,Qj,Qi,Qq,QC,bd,look,aput,Qm,Qh,ty,↓reduceIte,Nat.reduceEqDiff,Nat.reduceAdd,Nat.reduceSub,Nat.reduceMul,Int.reduceLT,Int.reduceLE,Int.reduceNeg,Int.reduceToNat,reduceCtorEq,Nat.reduceBEq,Nat.reduceBNe,Qk,Qe,Value.cells,am,mm,keep, f_, fo_, aint, bd, hSa, hii, hmT]
  first | refine ACalls.snap8 N_ ?_ | refine ACalls.snap7 N_ ?_ | refine ACalls.snap6 N_ ?_ | refine ACalls.snap5 N_ ?_ | refine ACalls.snap4 N_ ?_ | refine ACalls.snap3 N_ ?_ | refine ACalls.snap2 N_ ?_ | refine ACalls.snap1 N_ ?_
  clear fo_; have fo_ := f_; clear f_ N_; intro H4 xH4 lH4 N_
  have f_ := N_.has
  simp only [Has] at f_
  have hz4 : SL H4 (.slice (some ⟨H3.length, 0, none⟩) 256 1) ((zb 256).map U8) := SL.own 256 (by rw [List.length_map, zb_length]) f_.1.2.1
  refine ACalls.mono (pparse_calls _ (zb 256) H4 hz4 (by rw [zb_length]; decide)) ?_
  rintro _ H5 ⟨⟨z, rfl, o5⟩, e5⟩
  rw [hzE]
  rw [hzL] at o5
  replace N_ := N_.grow e5
  clear fo_; have fo_ := f_; clear f_
  have f_ := N_.has
  simp only [Has] at f_
  have ly := alen_sl (P := Tryd.prog) (T := 23) (by simp only [ty]) o3.sl
  rw [List.length_map, hpl] at ly
  obtain ⟨g, o, e', cs, rfl, hcs, hg, h1, hk1, hk0⟩ := (o3.sl.mono (xH4.trans e5)).bytes (by omega)
  have q0 : cs[o]? = some (.int .u8 1) := by rw [hk0, hb0]; rfl
  rw [hpl] at *
  have lz := alen_sln (P := Tryd.prog) (T := 29) (by simp only [ty]) o5.sln
  rw [List.length_nil] at lz
  have hx5 : SLn H5 x [p].length (flP [p]) := hx.mono (e2.trans (e3.trans (xH4.trans e5)))
  try simp -implicitDefEqProofs (disch := (try simp only [sl]); try omega) only [sm,QJ,Qj,Qi,Qq,QC,bd,look,aput,Qm,Qh,ty,↓reduceIte,Nat.reduceEqDiff,Nat.reduceAdd,Nat.reduceSub,Nat.reduceMul,Int.reduceLT,Int.reduceLE,Int.reduceNeg,Int.reduceToNat,reduceCtorEq,Nat.reduceBEq,Nat.reduceBNe,Qk,Qe,Value.cells,am,mm,keep, f_, fo_, aint, hii, hq, ly, hcs, q0, lz]
  try (refine hK_ _ _ ?_; clear hK_ K_; repeat first | refine QL ?_ | refine QM ?_)
  (repeat first | refine Qo ?_ | refine Qn ?_); refine QK (by kernel_rfl) ?_; intro K_ hK_; simp -implicitDefEqProofs (disch := (try simp only [sl]); try omega) only [sm,QJ,Qj,Qi,Qq,QC,Qz,bd,QF,look,aput,Qm,QI,abin,anil,Qb,QA,ty,↓reduceIte,Nat.reduceEqDiff,Nat.reduceAdd,Nat.reduceSub,Nat.reduceMul,Int.reduceLT,Int.reduceLE,Int.reduceNeg,Int.reduceToNat,reduceCtorEq,Nat.reduceBEq,Nat.reduceBNe,Qk,Qe,Value.cells,am,mm,keep, f_, fo_, aint, hii, hq, ly, hcs, q0, lz]
  refine ACalls.mono (names_one x p H5 hx5) ?_
  rintro _ H6 ⟨⟨q, e6', rfl⟩, e6⟩
  have l6 : alen Tryd.prog 53 (.slice q 1 e6') = some (.int .i64 1) := by rw [alen_slice, if_pos (by simp only [ty])]; rfl
  replace N_ := N_.grow e6
  clear fo_; have fo_ := f_; clear f_
  have f_ := N_.has
  simp only [Has] at f_
  try simp -implicitDefEqProofs (disch := (try simp only [sl]); try omega) only [sm,QJ,Qj,Qi,Qq,QC,Qz,bd,QF,look,aput,Qm,QI,abin,anil,Qb,QA,ty,↓reduceIte,Nat.reduceEqDiff,Nat.reduceAdd,Nat.reduceSub,Nat.reduceMul,Int.reduceLT,Int.reduceLE,Int.reduceNeg,Int.reduceToNat,reduceCtorEq,Nat.reduceBEq,Nat.reduceBNe,Qk,Qe,Value.cells,am,mm,keep, f_, fo_, aint, hii, hq, ly, hcs, q0, lz, l6]
  try (refine hK_ _ _ ?_; clear hK_ K_; repeat first | refine QL ?_ | refine QM ?_)
  first | refine awp_ret ?_ | skip
  show ∃ v, aresults Tryd.prog Tryd.f8 _ _ = some v ∧ _
  rw [aresults_1 (r := .tmp 0) (by kernel_rfl)]
  simp -implicitDefEqProofs (disch := (try simp only [sl]); try omega) only [aresult, Option.some.injEq, exists_eq_left', sm,Qj,Qi,Qq,QC,Qz,bd,QF,look,aput,QB,Qf,QA,ty,↓reduceIte,Nat.reduceEqDiff,Nat.reduceAdd,Nat.reduceSub,Nat.reduceMul,Int.reduceLT,Int.reduceLE,Int.reduceNeg,Int.reduceToNat,reduceCtorEq,Nat.reduceBEq,Nat.reduceBNe,Qk,Qe,Value.cells,am,mm,keep, f_, fo_, aint, hii, hq, ly, hcs, q0, lz]
  exact N_.ext
end Go.Proofs.YtfdpmffcdafmgaaDoor
