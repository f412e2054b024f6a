/- wrap: Halves, Wrap, Unwrap, Again. -/
import Derived.Test.YtelpdppdhimfoaaWp2
namespace Go.Proofs.Ytelpdppdhimfoaa
open Go Go.RowKit
--hide
set_option linter.unusedSimpArgs false
set_option linter.unusedVariables false
set_option maxRecDepth 4000
/-- copy of a row that is not shorter over the whole of an own block. -/
theorem copy_full {P : Program} {H : AH} {t tx : TypeId} {bytes g n e : Nat} {v : Value} {vs cs : List Value} (he : elemT P t = some (1, bytes)) (ht : sliceT P tx = true) (h : SL H v vs) (hv : vs.all cellv = true) (hg : H[g]? = some (.own cs)) (hn : n = cs.length) (hl : cs.length ≤ vs.length) (h0 : 2 ≤ n) :
    acopy P H t tx (.slice (some ⟨g, 0, none⟩) n e) v = some (.int .i64 n, H.set g (.own (vs.take n))) := by
  subst hn
  have hmin : min vs.length cs.length = cs.length := Nat.min_eq_right hl
  have hlt : (vs.take cs.length).length = cs.length := by rw [List.length_take]; exact Nat.min_eq_left hl
  unfold acopy
  simp only [he, asrc_sl ht h hv, hmin, hg, Nat.mul_one, Nat.zero_add, hlt]
  rw [show min (vs.length : Int) (cs.length : Int) = (cs.length : Int) by omega]
  rw [if_neg (by omega), if_pos ⟨Nat.le_refl _, hv⟩, ovr_all _ _ hlt]
def inR (r : Int) : Prop := 1 ≤ r ∧ r ≤ 100
instance (r : Int) : Decidable (inR r) := inferInstanceAs (Decidable (_ ∧ _))
def halA (p s : List UInt8) (r : Int) : List UInt8 := if inR r then (keyN p s r 64).take 32 else zb 32
def halB (p s : List UInt8) (r : Int) : List UInt8 := if inR r then (keyN p s r 64).drop 32 else zb 32
def halE (r : Int) : Int := if inR r then 0 else 1
theorem halA_length (p s : List UInt8) (r : Int) : (halA p s r).length = 32 := by
  unfold halA; split
  · rw [List.length_take, keyN_length]; rfl
  · exact zb_length _
theorem halB_length (p s : List UInt8) (r : Int) : (halB p s r).length = 32 := by
  unfold halB; split
  · rw [List.length_drop, keyN_length]
  · exact zb_length _
set_option maxHeartbeats 4000000 in
theorem halves_calls (v : Value) (p s : List UInt8) (r : Int) (H : AH) (hv : SL H v (p.map U8)) (hp : p.length ≤ 1099511627000) (hs : s.length = 16) (hr0 : -9223372036854775808 ≤ r) (hr1 : r ≤ 9223372036854775807) :
    ACalls Try.prog 25 #[v, .agg (s.map U8).toArray, .int .i64 r] H fun w H' => w = .tuple #[.agg ((halA p s r).map U8).toArray, .agg ((halB p s r).map U8).toArray, .int .i64 (halE r)] ∧ Ext H H' := by
  have hz32 := zb_length 32
  have hz16 := zb_length 16
  have fo_ : True := trivial
  have N_ := Now.start H
  have f_ := N_.has
  simp only [Has] at f_
  refine acalls_of_body Try.func25 rfl Try.ntmps25 (by simp) ?_
  simp only [argsT, Nat.reduceAdd]
  iterate 2 ((repeat first | refine Qo ?_ | refine Qn ?_); (first | (refine QK (by kernel_rfl) ?_; intro K_ hK_; simp -implicitDefEqProofs (disch := (try simp only [sl]); try omega) only [sm,QJ,Qj,Qi,Qq,QC,bd,look,aput,ty,↓reduceIte,Nat.reduceEqDiff,Nat.reduceAdd,Nat.reduceSub,Nat.reduceMul,Int.reduceLT,Int.reduceLE,Int.reduceNeg,Int.reduceToNat,reduceCtorEq,Nat.reduceBEq,Nat.reduceBNe,Qk,Qe,Value.cells,am,mm,keep, aint, f_, hs, QO, zb_length]; refine hK_ _ _ ?_; clear hK_ K_; repeat first | refine QL ?_ | refine QM ?_)))
  first | refine AWp.snap8 N_ ?_ | refine AWp.snap7 N_ ?_ | refine AWp.snap6 N_ ?_ | refine AWp.snap5 N_ ?_ | refine AWp.snap4 N_ ?_ | refine AWp.snap3 N_ ?_ | refine AWp.snap2 N_ ?_ | refine AWp.snap1 N_ ?_
  clear fo_; have fo_ := f_; clear f_ N_; intro H1 xH1 lH1 N_
  have f_ := N_.has
  simp only [Has] at f_
  have hv1 := hv.mono xH1
  by_cases h1 : r < 1
  · -- R2
    iterate 1 ((repeat first | refine Qo ?_ | refine Qn ?_); (first | (refine QK (by kernel_rfl) ?_; intro K_ hK_; simp -implicitDefEqProofs (disch := (try simp only [sl]); try omega) only [sm,QJ,Qj,Qi,Qq,QC,bd,look,aput,QI,abin,anil,ty,↓reduceIte,Nat.reduceEqDiff,Nat.reduceAdd,Nat.reduceSub,Nat.reduceMul,Int.reduceLT,Int.reduceLE,Int.reduceNeg,Int.reduceToNat,reduceCtorEq,Nat.reduceBEq,Nat.reduceBNe,Qk,Qe,Value.cells,am,mm,keep, aint, f_, hs, QO, zb_length, h1]; refine hK_ _ _ ?_; clear hK_ K_; repeat first | refine QL ?_ | refine QM ?_)))
    repeat first | refine Qo ?_ | refine Qn ?_
    refine awp_if true rfl (by simp only [aeval_tmp, look, ↓reduceIte, Nat.reduceEqDiff]; try rfl) (fun _ => ?_) (fun h => absurd h (by decide))
    iterate 1 ((repeat first | refine Qo ?_ | refine Qn ?_); (first | (refine awp_region_drawK (id := 3) [(0, []), (1, []), (2, [1]), (3, []), (4, [])] mixed (by kernel_rfl) ?_; intro K_ hK_; simp -implicitDefEqProofs (disch := (try simp only [sl]); try omega) only [sm,aSel,Qu,Qv,Qw,Qx,Qy,Qj,Qi,Qq,QC,Qz,bd,QF,look,aput,Qm,QA,ty,↓reduceIte,Nat.reduceEqDiff,Nat.reduceAdd,Nat.reduceSub,Nat.reduceMul,Int.reduceLT,Int.reduceLE,Int.reduceNeg,Int.reduceToNat,reduceCtorEq,Nat.reduceBEq,Nat.reduceBNe,Qk,Qe,Value.cells,am,mm,keep, aint, f_, hs, QO, zb_length]; refine hK_ _ _ ?_; clear hK_ K_; repeat first | refine QL ?_ | refine QM ?_)))
    first | refine awp_ret ?_ | skip
    show ∃ v, aresults Try.prog Try.f25 _ _ = some v ∧ _
    rw [aresults_3 (r := .cell 6 35) (s := .cell 7 35) (u := .tmp 8) (by kernel_rfl)]
    simp -implicitDefEqProofs (disch := (try simp only [sl]); try omega) only [aresult, Option.some.injEq, exists_eq_left', sm,Qj,Qi,Qq,QC,Qz,bd,QF,look,aput,QB,Qf,QA,ty,↓reduceIte,Nat.reduceEqDiff,Nat.reduceAdd,Nat.reduceSub,Nat.reduceMul,Int.reduceLT,Int.reduceLE,Int.reduceNeg,Int.reduceToNat,reduceCtorEq,Nat.reduceBEq,Nat.reduceBNe,Qk,Qe,Value.cells,am,mm,keep, aint, f_, hs, QO, zb_length]
    have hn : ¬ inR r := fun h => by unfold inR at h; omega
    exact ⟨by rw [halA, halB, halE, if_neg hn, if_neg hn, if_neg hn], (N_.ext.set _ (by omega)).set _ (by omega)⟩
  by_cases h2 : r > 100
  · -- (cursor back)
    iterate 1 ((repeat first | refine Qo ?_ | refine Qn ?_); (first | (refine QK (by kernel_rfl) ?_; intro K_ hK_; simp -implicitDefEqProofs (disch := (try simp only [sl]); try omega) only [sm,QJ,Qj,Qi,Qq,QC,bd,look,aput,QI,abin,anil,ty,↓reduceIte,Nat.reduceEqDiff,Nat.reduceAdd,Nat.reduceSub,Nat.reduceMul,Int.reduceLT,Int.reduceLE,Int.reduceNeg,Int.reduceToNat,reduceCtorEq,Nat.reduceBEq,Nat.reduceBNe,Qk,Qe,Value.cells,am,mm,keep, aint, f_, hs, QO, zb_length, h1, h2]; refine hK_ _ _ ?_; clear hK_ K_; repeat first | refine QL ?_ | refine QM ?_)))
    repeat first | refine Qo ?_ | refine Qn ?_
    refine awp_if true rfl (by simp only [aeval_tmp, look, ↓reduceIte, Nat.reduceEqDiff]; try rfl) (fun _ => ?_) (fun h => absurd h (by decide))
    iterate 1 ((repeat first | refine Qo ?_ | refine Qn ?_); (first | (refine awp_region_drawK (id := 3) [(0, []), (1, []), (2, [1]), (3, []), (4, [])] mixed (by kernel_rfl) ?_; intro K_ hK_; simp -implicitDefEqProofs (disch := (try simp only [sl]); try omega) only [sm,aSel,Qu,Qv,Qw,Qx,Qy,Qj,Qi,Qq,QC,Qz,bd,QF,look,aput,Qm,QA,ty,↓reduceIte,Nat.reduceEqDiff,Nat.reduceAdd,Nat.reduceSub,Nat.reduceMul,Int.reduceLT,Int.reduceLE,Int.reduceNeg,Int.reduceToNat,reduceCtorEq,Nat.reduceBEq,Nat.reduceBNe,Qk,Qe,Value.cells,am,mm,keep, aint, f_, hs, QO, zb_length]; refine hK_ _ _ ?_; clear hK_ K_; repeat first | refine QL ?_ | refine QM ?_)))
    first | refine awp_ret ?_ | skip
    show ∃ v, aresults Try.prog Try.f25 _ _ = some v ∧ _
    rw [aresults_3 (r := .cell 6 35) (s := .cell 7 35) (u := .tmp 8) (by kernel_rfl)]
    simp -implicitDefEqProofs (disch := (try simp only [sl]); try omega) only [aresult, Option.some.injEq, exists_eq_left', sm,Qj,Qi,Qq,QC,Qz,bd,QF,look,aput,QB,Qf,QA,ty,↓reduceIte,Nat.reduceEqDiff,Nat.reduceAdd,Nat.reduceSub,Nat.reduceMul,Int.reduceLT,Int.reduceLE,Int.reduceNeg,Int.reduceToNat,reduceCtorEq,Nat.reduceBEq,Nat.reduceBNe,Qk,Qe,Value.cells,am,mm,keep, aint, f_, hs, QO, zb_length]
    have hn : ¬ inR r := fun h => by unfold inR at h; omega
    exact ⟨by rw [halA, halB, halE, if_neg hn, if_neg hn, if_neg hn], (N_.ext.set _ (by omega)).set _ (by omega)⟩
  iterate 1 ((repeat first | refine Qo ?_ | refine Qn ?_); (first | (refine QK (by kernel_rfl) ?_; intro K_ hK_; simp -implicitDefEqProofs (disch := (try simp only [sl]); try omega) only [sm,QJ,Qj,Qi,Qq,QC,bd,look,aput,QI,abin,anil,ty,↓reduceIte,Nat.reduceEqDiff,Nat.reduceAdd,Nat.reduceSub,Nat.reduceMul,Int.reduceLT,Int.reduceLE,Int.reduceNeg,Int.reduceToNat,reduceCtorEq,Nat.reduceBEq,Nat.reduceBNe,Qk,Qe,Value.cells,am,mm,keep, aint, f_, hs, QO, zb_length, h1, h2]; refine hK_ _ _ ?_; clear hK_ K_; repeat first | refine QL ?_ | refine QM ?_)))
  repeat first | refine Qo ?_ | refine Qn ?_
  refine awp_if false rfl (by simp only [aeval_tmp, look, ↓reduceIte, Nat.reduceEqDiff]; try rfl) (fun h => absurd h (by decide)) (fun _ => ?_)
  iterate 1 ((repeat first | refine Qo ?_ | refine Qn ?_); (first | (refine QK (by kernel_rfl) ?_; intro K_ hK_; simp -implicitDefEqProofs (disch := (try simp only [sl]); try omega) only [sm,QJ,Qj,Qi,Qq,QC,bd,look,aput,Qm,Qr,loN,hiN,Qh,ty,↓reduceIte,Nat.reduceEqDiff,Nat.reduceAdd,Nat.reduceSub,Nat.reduceMul,Int.reduceLT,Int.reduceLE,Int.reduceNeg,Int.reduceToNat,reduceCtorEq,Nat.reduceBEq,Nat.reduceBNe,Qk,Qe,Value.cells,am,mm,keep, aint, f_, hs, QO, zb_length]; refine hK_ _ _ ?_; clear hK_ K_; repeat first | refine QL ?_ | refine QM ?_) | (refine awp_skip ?_; repeat first | refine QL ?_ | refine QM ?_)))
  (repeat first | refine Qo ?_ | refine Qn ?_); refine QK (by kernel_rfl) ?_; intro K_ hK_; simp -implicitDefEqProofs (disch := (try simp only [sl]); try omega) only [sm,QJ,Qj,Qi,Qq,QC,bd,look,aput,Qm,Qr,loN,hiN,Qh,ty,↓reduceIte,Nat.reduceEqDiff,Nat.reduceAdd,Nat.reduceSub,Nat.reduceMul,Int.reduceLT,Int.reduceLE,Int.reduceNeg,Int.reduceToNat,reduceCtorEq,Nat.reduceBEq,Nat.reduceBNe,Qk,Qe,Value.cells,am,mm,keep, aint, f_, hs, QO, zb_length]
  have hin : inR r := by unfold inR; omega
  have hoff : ¬ Off r 64 := fun h => by rcases h with h | h | h | h <;> omega
  refine ACalls.mono (stkey_calls' v _ p s r 64 H1 hv1 (SL.own 16 (by rw [List.length_map, hs]) f_.2.2.2.2.1.2.1) hp (by omega) hr0 hr1 (by decide) (by decide)) ?_
  rintro w H2 ⟨e2, ho⟩
  obtain ⟨-, u, rfl, hu, hfr⟩ := ho.resolve_left (fun h => hoff h.1)
  have hkl := keyN_length p s r 64
  rw [show (64 : Int).toNat = 64 from rfl] at hu
  have hA : halA p s r = (keyN p s r 64).take 32 := by rw [halA, if_pos hin]
  have hB : halB p s r = (keyN p s r 64).drop 32 := by rw [halB, if_pos hin]
  have hE : halE r = 0 := by rw [halE, if_pos hin]
  generalize keyN p s r 64 = kk at *
  replace N_ := N_.grow e2
  clear fo_; have fo_ := f_; clear f_
  have f_ := N_.has
  simp only [Has] at f_
  obtain ⟨pu, nu, eu, rfl⟩ := hu.isSlice
  try simp -implicitDefEqProofs (disch := (try simp only [sl]); try omega) only [sm,QJ,Qj,Qi,Qq,QC,bd,look,aput,Qm,Qr,loN,hiN,Qh,ty,↓reduceIte,Nat.reduceEqDiff,Nat.reduceAdd,Nat.reduceSub,Nat.reduceMul,Int.reduceLT,Int.reduceLE,Int.reduceNeg,Int.reduceToNat,reduceCtorEq,Nat.reduceBEq,Nat.reduceBNe,Qk,Qe,Value.cells,am,mm,keep, aint, f_, hs, QO, zb_length]
  try (refine hK_ _ _ ?_; clear hK_ K_; repeat first | refine QL ?_ | refine QM ?_)
  have hc1 : acopy Try.prog H2 22 22 (.slice (some ⟨H.length + 3, 0, none⟩) 32 0) (.slice pu nu eu) = _ := copy_full (bytes := 1) (by simp only [ty]) (by simp only [ty]) hu (all8 _) f_.2.1.2.1 (by rw [List.length_map, hz32]) (by rw [List.length_map, List.length_map, hz32, hkl]; decide) (by decide)
  iterate 1 ((repeat first | refine Qo ?_ | refine Qn ?_); (first | (refine QK (by kernel_rfl) ?_; intro K_ hK_; simp -implicitDefEqProofs (disch := (try simp only [sl]); try omega) only [sm,QJ,Qj,Qi,Qq,QC,bd,look,aput,Qm,Qr,loN,hiN,ty,↓reduceIte,Nat.reduceEqDiff,Nat.reduceAdd,Nat.reduceSub,Nat.reduceMul,Int.reduceLT,Int.reduceLE,Int.reduceNeg,Int.reduceToNat,reduceCtorEq,Nat.reduceBEq,Nat.reduceBNe,Qk,Qe,Value.cells,am,mm,keep, aint, f_, hs, QO, zb_length, hc1]; refine hK_ _ _ ?_; clear hK_ K_; repeat first | refine QL ?_ | refine QM ?_)))
  refine AWp.snapset N_ (by omega) (by omega) ?_
  clear fo_; have fo_ := f_; clear f_ N_; intro H3 lH3 xH3 N_; simp (disch := omega) only [List.map_cons, List.map_nil, if_pos, if_neg, ↓reduceIte] at N_
  have f_ := N_.has
  simp only [Has] at f_
  have hu3 := hu.other (fun o n e h => by have := hfr _ _ _ _ h; omega) xH3
  obtain ⟨g, o, e, cs, hv, hcs, hgl, h5, h6, h7⟩ := hu3.bytes (by omega)
  have hu4 : SL H3 (.slice (some ⟨g, o + 32, none⟩) 32 (if e = 1 then e else 0)) ((kk.drop 32).map U8) := by
    rw [hv] at hu3
    have := hu3.subm 32 32 (if e = 1 then e else 0) (by omega)
    rwa [List.take_of_length_le (by rw [List.length_drop]; omega)] at this
  have hc2 : acopy Try.prog H3 22 22 (.slice (some ⟨H.length + 4, 0, none⟩) 32 0) (.slice (some ⟨g, o + 32, none⟩) 32 (if e = 1 then e else 0)) = _ := copy_full (bytes := 1) (by simp only [ty]) (by simp only [ty]) hu4 (all8 _) f_.1.2.1 (by rw [List.length_map, hz32]) (by rw [List.length_map, List.length_map, hz32, List.length_drop, hkl]; decide) (by decide)
  cases hv

  iterate 1 ((repeat first | refine Qo ?_ | refine Qn ?_); (first | (refine awp_region_drawK (id := 6) [(0, []), (1, []), (2, []), (3, [])] mixed (by kernel_rfl) ?_; intro K_ hK_; simp -implicitDefEqProofs (disch := (try simp only [sl]); try omega) only [sm,aSel,Qu,Qv,Qw,Qx,Qy,Qj,Qi,Qq,QC,bd,look,aput,Qm,Qr,loN,hiN,ty,↓reduceIte,Nat.reduceEqDiff,Nat.reduceAdd,Nat.reduceSub,Nat.reduceMul,Int.reduceLT,Int.reduceLE,Int.reduceNeg,Int.reduceToNat,reduceCtorEq,Nat.reduceBEq,Nat.reduceBNe,Qk,Qe,Value.cells,am,mm,keep, aint, f_, hs, QO, zb_length, hc2, hkl]; refine hK_ _ _ ?_; clear hK_ K_; repeat first | refine QL ?_ | refine QM ?_)))
  refine AWp.snapset N_ (by omega) (by omega) ?_
  clear fo_; have fo_ := f_; clear f_ N_; intro H4 lH4 xH4 N_; simp (disch := omega) only [List.map_cons, List.map_nil, if_pos, if_neg, ↓reduceIte] at N_
  have f_ := N_.has
  simp only [Has] at f_
  have ht1 : List.take 32 (kk.map U8) = (halA p s r).map U8 := by rw [hA, List.map_take]
  have ht2 : List.take 32 ((kk.drop 32).map U8) = (halB p s r).map U8 := by rw [hB, List.take_of_length_le (by rw [List.length_map, List.length_drop]; omega)]
  have hl1 := halA_length p s r
  have hl2 := halB_length p s r
  simp only [ht1, ht2] at N_ f_
  rw [← hE]
  clear hE hA hB ht1 ht2 hc1 hc2 hfr ho
  generalize halA p s r = A at *
  generalize halB p s r = B at *
  generalize halE r = E at *
  have hov1 : ovr ((zb 32).map U8) 0 (A.map U8) = A.map U8 := ovr_all _ _ (by rw [List.length_map, List.length_map, hl1, hz32])
  have hov2 : ovr ((zb 32).map U8) 0 (B.map U8) = B.map U8 := ovr_all _ _ (by rw [List.length_map, List.length_map, hl2, hz32])
  iterate 1 ((repeat first | refine Qo ?_ | refine Qn ?_); (first | (refine awp_region_drawK (id := 7) [(0, []), (1, []), (2, []), (3, [1]), (4, []), (5, [])] mixed (by kernel_rfl) ?_; intro K_ hK_; simp -implicitDefEqProofs (disch := (try simp only [sl]); try omega) only [sm,aSel,Qu,Qv,Qw,Qx,Qy,Qj,Qi,Qq,QC,Qz,bd,QF,look,aput,Qm,QA,ty,↓reduceIte,Nat.reduceEqDiff,Nat.reduceAdd,Nat.reduceSub,Nat.reduceMul,Int.reduceLT,Int.reduceLE,Int.reduceNeg,Int.reduceToNat,reduceCtorEq,Nat.reduceBEq,Nat.reduceBNe,Qk,Qe,Value.cells,am,mm,keep, aint, f_, hs, QO, zb_length, hov1, hov2]; refine hK_ _ _ ?_; clear hK_ K_; repeat first | refine QL ?_ | refine QM ?_)))
  first | refine awp_ret ?_ | skip
  show ∃ v, aresults Try.prog Try.f25 _ _ = some v ∧ _
  rw [aresults_3 (r := .cell 6 35) (s := .cell 7 35) (u := .tmp 8) (by kernel_rfl)]
  simp -implicitDefEqProofs (disch := (try simp only [sl]); try omega) only [aresult, Option.some.injEq, exists_eq_left', sm,Qj,Qi,Qq,QC,Qz,bd,QF,look,aput,QB,Qf,QA,ty,↓reduceIte,Nat.reduceEqDiff,Nat.reduceAdd,Nat.reduceSub,Nat.reduceMul,Int.reduceLT,Int.reduceLE,Int.reduceNeg,Int.reduceToNat,reduceCtorEq,Nat.reduceBEq,Nat.reduceBNe,Qk,Qe,Value.cells,am,mm,keep, aint, f_, hs, QO, zb_length]
  exact (N_.ext.set _ (by omega)).set _ (by omega)
end Go.Proofs.Ytelpdppdhimfoaa
