/- wrap: Wrap, Unwrap, Again. -/
import Derived.Test.YtelpdppdhimfoaaWp3
namespace Go.Proofs.Ytelpdppdhimfoaa
open Go Go.RowKit
--hide
set_option linter.unusedSimpArgs false
set_option linter.unusedVariables false
set_option maxRecDepth 4000
theorem zW : [Value.int .u8 0, Value.int .u8 0, Value.int .u8 0, Value.int .u8 0, Value.int .u8 0, Value.int .u8 0, Value.int .u8 0, Value.int .u8 0, Value.int .u8 0, Value.int .u8 0, Value.int .u8 0, Value.int .u8 0, Value.int .u8 0, Value.int .u8 0, Value.int .u8 0, Value.int .u8 0, Value.int .i64 0, Value.int .u8 0, Value.int .u8 0, Value.int .u8 0, Value.int .u8 0, Value.int .u8 0, Value.int .u8 0, Value.int .u8 0, Value.int .u8 0, Value.int .u8 0, Value.int .u8 0, Value.int .u8 0, Value.int .u8 0, Value.int .u8 0, Value.int .u8 0, Value.int .u8 0, Value.int .u8 0, Value.int .u8 0, Value.int .u8 0, Value.int .u8 0, Value.int .u8 0, Value.int .u8 0, Value.int .u8 0, Value.int .u8 0, Value.int .u8 0, Value.int .u8 0, Value.int .u8 0, Value.int .u8 0, Value.int .u8 0, Value.int .u8 0, Value.int .u8 0, Value.int .u8 0, Value.int .u8 0, Value.int .u8 0, Value.int .u8 0, Value.int .u8 0, Value.int .u8 0, Value.int .u8 0, Value.int .u8 0, Value.int .u8 0, Value.int .u8 0, Value.int .u8 0, Value.int .u8 0, Value.int .u8 0, Value.int .u8 0, Value.int .u8 0, Value.int .u8 0, Value.int .u8 0, Value.int .u8 0, Value.int .u8 0, Value.int .u8 0, Value.int .u8 0, Value.int .u8 0, Value.int .u8 0, Value.int .u8 0, Value.int .u8 0, Value.int .u8 0, Value.int .u8 0, Value.int .u8 0, Value.int .u8 0, Value.int .u8 0, Value.int .u8 0, Value.int .u8 0, Value.int .u8 0, Value.int .u8 0] = wcells (zb 16) 0 (zb 32) (zb 32) := rfl
theorem wcells_cellv (s : List UInt8) (r : Int) (k c : List UInt8) : (wcells s r k c).all cellv = true := by
  rw [wcells, List.all_append, List.all_append, List.all_append, all8, all8, all8]; rfl
theorem build_w (s : List UInt8) (r : Int) (k : List UInt8) : s.map U8 ++ .int .i64 r :: (k.map U8 ++ (zb 32).map U8) = wcells s r k (zb 32) := rfl
def wrapS (s : List UInt8) (r : Int) : List UInt8 := if inR r then s else zb 16
def wrapR (r : Int) : Int := if inR r then r else 0
def wrapK (p s : List UInt8) (r : Int) (m : List UInt8) : List UInt8 := if inR r then turnedB (halA p s r) m else zb 32
def wrapC (p s : List UInt8) (r : Int) (m : List UInt8) : List UInt8 := if inR r then checkB s r (turnedB (halA p s r) m) (halB p s r) else zb 32
theorem checkB_length (s : List UInt8) (r : Int) (k b : List UInt8) : (checkB s r k b).length = 32 := macB_length _ _
theorem wrap_ok (p s : List UInt8) (r : Int) (m : List UInt8) (hs : s.length = 16) (hm : m.length = 32) : WK.ok ⟨wrapS s r, wrapR r, wrapK p s r m, wrapC p s r m⟩ := by
  unfold wrapS wrapK wrapC
  split
  · exact ⟨hs, by simp only [turnedB_length, hm], checkB_length _ _ _ _⟩
  · exact ⟨zb_length _, zb_length _, zb_length _⟩
set_option maxHeartbeats 4000000 in
theorem wrap_calls (v : Value) (p s : List UInt8) (r : Int) (m : List UInt8) (H : AH) (hv : SL H v (p.map U8)) (hp : p.length ≤ 1099511627000) (hs : s.length = 16) (hm : m.length = 32) (hr0 : -9223372036854775808 ≤ r) (hr1 : r ≤ 9223372036854775807) :
    ACalls Try.prog 23 #[v, .agg (s.map U8).toArray, .int .i64 r, .agg (m.map U8).toArray] H fun w H' => w = .tuple #[.agg (wcells (wrapS s r) (wrapR r) (wrapK p s r m) (wrapC p s r m)).toArray, .int .i64 (halE r)] ∧ Ext H H' := by
  have hz32 := zb_length 32
  have hz16 := zb_length 16
  have hwz := wcells_length WK.zero_ok
  have hwa := wcells_cellv
  have hovz : ovr (wcells (zb 16) 0 (zb 32) (zb 32)) 0 (wcells (zb 16) 0 (zb 32) (zb 32)) = wcells (zb 16) 0 (zb 32) (zb 32) := ovr_all _ _ rfl
  have hl1 := halA_length p s r
  have hl2 := halB_length p s r
  have fo_ : True := trivial
  have N_ := Now.start H
  have f_ := N_.has
  simp only [Has] at f_
  refine acalls_of_body Try.func23 rfl Try.ntmps23 (by simp) ?_
  simp only [argsT, Nat.reduceAdd]
  iterate 1 ((repeat first | refine Qo ?_ | refine Qn ?_); (first | (refine QK (by kernel_rfl) ?_; intro K_ hK_; simp -implicitDefEqProofs (disch := (try simp only [sl]); try omega) only [sm,QJ,Qj,Qi,Qq,QC,bd,look,aput,ty,↓reduceIte,Nat.reduceEqDiff,Nat.reduceAdd,Nat.reduceSub,Nat.reduceMul,Int.reduceLT,Int.reduceLE,Int.reduceNeg,Int.reduceToNat,reduceCtorEq,Nat.reduceBEq,Nat.reduceBNe,Qk,Qe,Value.cells,am,mm,keep, f_, hs, hm, QO, zb_length, zW, hl1, hl2, hwz, hwa]; refine hK_ _ _ ?_; clear hK_ K_; repeat first | refine QL ?_ | refine QM ?_)))
  first | refine AWp.snap8 N_ ?_ | refine AWp.snap7 N_ ?_ | refine AWp.snap6 N_ ?_ | refine AWp.snap5 N_ ?_ | refine AWp.snap4 N_ ?_ | refine AWp.snap3 N_ ?_ | refine AWp.snap2 N_ ?_ | refine AWp.snap1 N_ ?_
  clear fo_; have fo_ := f_; clear f_ N_; intro H1 xH1 lH1 N_
  have f_ := N_.has
  simp only [Has] at f_
  (repeat first | refine Qo ?_ | refine Qn ?_); refine QK (by kernel_rfl) ?_; intro K_ hK_; simp -implicitDefEqProofs (disch := (try simp only [sl]); try omega) only [sm,QJ,Qj,Qi,Qq,QC,Qz,bd,QF,look,aput,Qm,QA,Qh,ty,↓reduceIte,Nat.reduceEqDiff,Nat.reduceAdd,Nat.reduceSub,Nat.reduceMul,Int.reduceLT,Int.reduceLE,Int.reduceNeg,Int.reduceToNat,reduceCtorEq,Nat.reduceBEq,Nat.reduceBNe,Qk,Qe,Value.cells,am,mm,keep, f_, hs, hm, QO, zb_length, zW, hl1, hl2, hwz, hwa]
  refine ACalls.mono (halves_calls v p s r H1 (hv.mono xH1) hp hs hr0 hr1) ?_
  rintro _ H2 ⟨rfl, e2⟩
  replace N_ := N_.grow e2
  clear fo_; have fo_ := f_; clear f_
  have f_ := N_.has
  simp only [Has] at f_
  try simp -implicitDefEqProofs (disch := (try simp only [sl]); try omega) only [sm,QJ,Qj,Qi,Qq,QC,Qz,bd,QF,look,aput,Qm,QA,Qh,ty,↓reduceIte,Nat.reduceEqDiff,Nat.reduceAdd,Nat.reduceSub,Nat.reduceMul,Int.reduceLT,Int.reduceLE,Int.reduceNeg,Int.reduceToNat,reduceCtorEq,Nat.reduceBEq,Nat.reduceBNe,Qk,Qe,Value.cells,am,mm,keep, f_, hs, hm, QO, zb_length, zW, hl1, hl2, hwz, hwa]
  try (refine hK_ _ _ ?_; clear hK_ K_; repeat first | refine QL ?_ | refine QM ?_)
  first | refine AWp.snap8 N_ ?_ | refine AWp.snap7 N_ ?_ | refine AWp.snap6 N_ ?_ | refine AWp.snap5 N_ ?_ | refine AWp.snap4 N_ ?_ | refine AWp.snap3 N_ ?_ | refine AWp.snap2 N_ ?_ | refine AWp.snap1 N_ ?_
  clear fo_; have fo_ := f_; clear f_ N_; intro H3 xH3 lH3 N_
  have f_ := N_.has
  simp only [Has] at f_
  by_cases hin : inR r
  · have hE : halE r = 0 := by rw [halE, if_pos hin]
    iterate 1 ((repeat first | refine Qo ?_ | refine Qn ?_); (first | (refine QK (by kernel_rfl) ?_; intro K_ hK_; simp -implicitDefEqProofs (disch := (try simp only [sl]); try omega) only [sm,QJ,Qj,Qi,Qq,QC,bd,look,aput,QI,abin,anil,ty,↓reduceIte,Nat.reduceEqDiff,Nat.reduceAdd,Nat.reduceSub,Nat.reduceMul,Int.reduceLT,Int.reduceLE,Int.reduceNeg,Int.reduceToNat,reduceCtorEq,Nat.reduceBEq,Nat.reduceBNe,Qk,Qe,Value.cells,am,mm,keep, f_, hs, hm, QO, zb_length, zW, hl1, hl2, hwz, hwa, hE]; refine hK_ _ _ ?_; clear hK_ K_; repeat first | refine QL ?_ | refine QM ?_)))
    repeat first | refine Qo ?_ | refine Qn ?_
    refine awp_if false rfl (by simp only [aeval_tmp, look, ↓reduceIte, Nat.reduceEqDiff]; try rfl) (fun h => absurd h (by decide)) (fun _ => ?_)
    iterate 1 ((repeat first | refine Qo ?_ | refine Qn ?_); (first | (refine awp_region_drawK (id := 4) [(0, []), (1, []), (2, []), (3, []), (6, []), (4, [0]), (5, []), (7, [])] mixed (by kernel_rfl) ?_; intro K_ hK_; simp -implicitDefEqProofs (disch := (try simp only [sl]); try omega) only [sm,aSel,Qu,Qv,Qw,Qx,Qy,Qj,Qi,Qq,QC,Qz,bd,QF,look,aput,Qm,QA,ty,↓reduceIte,Nat.reduceEqDiff,Nat.reduceAdd,Nat.reduceSub,Nat.reduceMul,Int.reduceLT,Int.reduceLE,Int.reduceNeg,Int.reduceToNat,reduceCtorEq,Nat.reduceBEq,Nat.reduceBNe,Qk,Qe,Value.cells,am,mm,keep, f_, hs, hm, QO, zb_length, zW, hl1, hl2, hwz, hwa]; refine hK_ _ _ ?_; clear hK_ K_; repeat first | refine QL ?_ | refine QM ?_) | (refine awp_skip ?_; repeat first | refine QL ?_ | refine QM ?_)))
    (repeat first | refine Qo ?_ | refine Qn ?_); refine awp_region_drawK (id := 4) [(0, []), (1, []), (2, []), (3, []), (6, []), (4, [0]), (5, []), (7, [])] mixed (by kernel_rfl) ?_; intro K_ hK_; simp -implicitDefEqProofs (disch := (try simp only [sl]); try omega) only [sm,aSel,Qu,Qv,Qw,Qx,Qy,Qj,Qi,Qq,QC,Qz,bd,QF,look,aput,Qm,QA,ty,↓reduceIte,Nat.reduceEqDiff,Nat.reduceAdd,Nat.reduceSub,Nat.reduceMul,Int.reduceLT,Int.reduceLE,Int.reduceNeg,Int.reduceToNat,reduceCtorEq,Nat.reduceBEq,Nat.reduceBNe,Qk,Qe,Value.cells,am,mm,keep, f_, hs, hm, QO, zb_length, zW, hl1, hl2, hwz, hwa]
    have f3 := f_
    first | refine ACalls.snap8 N_ ?_ | refine ACalls.snap7 N_ ?_ | refine ACalls.snap6 N_ ?_ | refine ACalls.snap5 N_ ?_ | refine ACalls.snap4 N_ ?_ | refine ACalls.snap3 N_ ?_ | refine ACalls.snap2 N_ ?_ | refine ACalls.snap1 N_ ?_
    clear fo_; have fo_ := f_; clear f_ N_; intro H3b xH3b lH3b N_
    have f_ := N_.has
    simp only [Has] at f_
    refine ACalls.mono (wturned_calls (halA p s r) m H3b hl1 hm) ?_
    rintro _ H4 ⟨rfl, e4⟩
    replace N_ := N_.grow e4
    clear fo_; have fo_ := f_; clear f_
    have f_ := N_.has
    simp only [Has] at f_
    have ht1 : (turnedB (halA p s r) m).length = 32 := by rw [turnedB_length, hm]
    have hok : WK.ok ⟨s, r, turnedB (halA p s r) m, zb 32⟩ := ⟨hs, ht1, zb_length _⟩
    have hwl := wcells_length hok
    have hbl := build_w s r (turnedB (halA p s r) m)
    have hS : wrapS s r = s := by rw [wrapS, if_pos hin]
    have hR : wrapR r = r := by rw [wrapR, if_pos hin]
    have hK : wrapK p s r m = turnedB (halA p s r) m := by rw [wrapK, if_pos hin]
    have hC : wrapC p s r m = checkB s r (turnedB (halA p s r) m) (halB p s r) := by rw [wrapC, if_pos hin]
    generalize turnedB (halA p s r) m = tb at *
    try simp -implicitDefEqProofs (disch := (try simp only [sl]); try omega) only [sm,aSel,Qu,Qv,Qw,Qx,Qy,Qj,Qi,Qq,QC,Qz,bd,QF,look,aput,Qm,QA,ty,↓reduceIte,Nat.reduceEqDiff,Nat.reduceAdd,Nat.reduceSub,Nat.reduceMul,Int.reduceLT,Int.reduceLE,Int.reduceNeg,Int.reduceToNat,reduceCtorEq,Nat.reduceBEq,Nat.reduceBNe,Qk,Qe,Value.cells,am,mm,keep, f_, hs, hm, QO, zb_length, zW, hl1, hl2, hwz, hwa, ht1, bda, hbl, hwl, f3]
    try (refine hK_ _ _ ?_; clear hK_ K_; repeat first | refine QL ?_ | refine QM ?_)
    refine AWp.snapset N_ (by omega) (by omega) ?_
    clear fo_; have fo_ := f_; clear f_ N_; intro H5 lH5 xH5 N_; simp (disch := omega) only [List.map_cons, List.map_nil, if_pos, if_neg, ↓reduceIte] at N_
    have f_ := N_.has
    simp only [Has] at f_
    (repeat first | refine Qo ?_ | refine Qn ?_); refine QK (by kernel_rfl) ?_; intro K_ hK_; simp -implicitDefEqProofs (disch := (try simp only [sl]); try omega) only [sm,QJ,Qj,Qi,Qq,QC,Qz,bd,QF,look,aput,Qm,Qc,QA,ty,↓reduceIte,Nat.reduceEqDiff,Nat.reduceAdd,Nat.reduceSub,Nat.reduceMul,Int.reduceLT,Int.reduceLE,Int.reduceNeg,Int.reduceToNat,reduceCtorEq,Nat.reduceBEq,Nat.reduceBNe,Qk,Qe,Value.cells,am,mm,keep, f_, hs, hm, QO, zb_length, zW, hl1, hl2, hwz, hwa, hwl]
    refine ACalls.mono (wcheck_calls s r tb (zb 32) (halB p s r) H5 hok hl2) ?_
    rintro _ H6 ⟨rfl, e6⟩
    replace N_ := N_.grow e6
    clear fo_; have fo_ := f_; clear f_
    have f_ := N_.has
    simp only [Has] at f_
    have hcl := checkB_length s r tb (halB p s r)
    have hset := wcells_setc hok (checkB s r tb (halB p s r)) hcl
    have hok2 : WK.ok ⟨s, r, tb, checkB s r tb (halB p s r)⟩ := ⟨hs, ht1, hcl⟩
    have hwl2 := wcells_length hok2
    generalize checkB s r tb (halB p s r) = ck at *
    try simp -implicitDefEqProofs (disch := (try simp only [sl]); try omega) only [sm,QJ,Qj,Qi,Qq,QC,Qz,bd,QF,look,aput,Qm,Qc,QA,ty,↓reduceIte,Nat.reduceEqDiff,Nat.reduceAdd,Nat.reduceSub,Nat.reduceMul,Int.reduceLT,Int.reduceLE,Int.reduceNeg,Int.reduceToNat,reduceCtorEq,Nat.reduceBEq,Nat.reduceBNe,Qk,Qe,Value.cells,am,mm,keep, f_, hs, hm, QO, zb_length, zW, hl1, hl2, hwz, hwa, hwl, hcl, hset]
    try (refine hK_ _ _ ?_; clear hK_ K_; repeat first | refine QL ?_ | refine QM ?_)
    refine AWp.snapset N_ (by omega) (by omega) ?_
    clear fo_; have fo_ := f_; clear f_ N_; intro H7 lH7 xH7 N_; simp (disch := omega) only [List.map_cons, List.map_nil, if_pos, if_neg, ↓reduceIte] at N_
    have f_ := N_.has
    simp only [Has] at f_
    have hov2 : ovr (wcells (zb 16) 0 (zb 32) (zb 32)) 0 (wcells s r tb ck) = wcells s r tb ck := ovr_all _ _ (by rw [hwl2, hwz])
    iterate 1 ((repeat first | refine Qo ?_ | refine Qn ?_); (first | (refine QK (by kernel_rfl) ?_; intro K_ hK_; simp -implicitDefEqProofs (disch := (try simp only [sl]); try omega) only [sm,QJ,Qj,Qi,Qq,QC,Qz,bd,QF,look,aput,Qm,QA,ty,↓reduceIte,Nat.reduceEqDiff,Nat.reduceAdd,Nat.reduceSub,Nat.reduceMul,Int.reduceLT,Int.reduceLE,Int.reduceNeg,Int.reduceToNat,reduceCtorEq,Nat.reduceBEq,Nat.reduceBNe,Qk,Qe,Value.cells,am,mm,keep, f_, hs, hm, QO, zb_length, zW, hl1, hl2, hwz, hwa, hwl2, hov2]; refine hK_ _ _ ?_; clear hK_ K_; repeat first | refine QL ?_ | refine QM ?_)))
    first | refine awp_ret ?_ | skip
    show ∃ v, aresults Try.prog Try.f23 _ _ = some v ∧ _
    rw [aresults_2 (r := .cell 8 47) (s := .tmp 9) (by kernel_rfl)]
    simp -implicitDefEqProofs (disch := (try simp only [sl]); try omega) only [aresult, Option.some.injEq, exists_eq_left', sm,Qj,Qi,Qq,QC,Qz,bd,QF,look,aput,QB,Qf,QA,ty,↓reduceIte,Nat.reduceEqDiff,Nat.reduceAdd,Nat.reduceSub,Nat.reduceMul,Int.reduceLT,Int.reduceLE,Int.reduceNeg,Int.reduceToNat,reduceCtorEq,Nat.reduceBEq,Nat.reduceBNe,Qk,Qe,Value.cells,am,mm,keep, f_, hs, hm, QO, zb_length, zW, hl1, hl2, hwz, hwa]
    rw [hS, hR, hK, hC, hE]
    refine ⟨rfl, ?_⟩
    exact N_.ext.set _ (by omega)
  · have hE : halE r = 1 := by rw [halE, if_neg hin]
    iterate 1 ((repeat first | refine Qo ?_ | refine Qn ?_); (first | (refine QK (by kernel_rfl) ?_; intro K_ hK_; simp -implicitDefEqProofs (disch := (try simp only [sl]); try omega) only [sm,QJ,Qj,Qi,Qq,QC,bd,look,aput,QI,abin,anil,ty,↓reduceIte,Nat.reduceEqDiff,Nat.reduceAdd,Nat.reduceSub,Nat.reduceMul,Int.reduceLT,Int.reduceLE,Int.reduceNeg,Int.reduceToNat,reduceCtorEq,Nat.reduceBEq,Nat.reduceBNe,Qk,Qe,Value.cells,am,mm,keep, f_, hs, hm, QO, zb_length, zW, hl1, hl2, hwz, hwa, hE]; refine hK_ _ _ ?_; clear hK_ K_; repeat first | refine QL ?_ | refine QM ?_)))
    repeat first | refine Qo ?_ | refine Qn ?_
    refine awp_if true rfl (by simp only [aeval_tmp, look, ↓reduceIte, Nat.reduceEqDiff]; try rfl) (fun _ => ?_) (fun h => absurd h (by decide))
    iterate 1 ((repeat first | refine Qo ?_ | refine Qn ?_); (first | (refine QK (by kernel_rfl) ?_; intro K_ hK_; simp -implicitDefEqProofs (disch := (try simp only [sl]); try omega) only [sm,QJ,Qj,Qi,Qq,QC,bd,look,aput,Qm,ty,↓reduceIte,Nat.reduceEqDiff,Nat.reduceAdd,Nat.reduceSub,Nat.reduceMul,Int.reduceLT,Int.reduceLE,Int.reduceNeg,Int.reduceToNat,reduceCtorEq,Nat.reduceBEq,Nat.reduceBNe,Qk,Qe,Value.cells,am,mm,keep, f_, hs, hm, QO, zb_length, zW, hl1, hl2, hwz, hwa, hovz]; refine hK_ _ _ ?_; clear hK_ K_; repeat first | refine QL ?_ | refine QM ?_)))
    first | refine awp_ret ?_ | skip
    show ∃ v, aresults Try.prog Try.f23 _ _ = some v ∧ _
    rw [aresults_2 (r := .cell 8 47) (s := .tmp 9) (by kernel_rfl)]
    simp -implicitDefEqProofs (disch := (try simp only [sl]); try omega) only [aresult, Option.some.injEq, exists_eq_left', sm,Qj,Qi,Qq,QC,Qz,bd,QF,look,aput,QB,Qf,QA,ty,↓reduceIte,Nat.reduceEqDiff,Nat.reduceAdd,Nat.reduceSub,Nat.reduceMul,Int.reduceLT,Int.reduceLE,Int.reduceNeg,Int.reduceToNat,reduceCtorEq,Nat.reduceBEq,Nat.reduceBNe,Qk,Qe,Value.cells,am,mm,keep, f_, hs, hm, QO, zb_length, zW, hl1, hl2, hwz, hwa]
    rw [wrapS, wrapR, wrapK, wrapC, if_neg hin, if_neg hin, if_neg hin, if_neg hin, hE]
    refine ⟨rfl, ?_⟩
    exact N_.ext.set _ (by omega)
def unwK (p s : List UInt8) (r : Int) (k c : List UInt8) : List UInt8 := if inR r ∧ checkB s r k (halB p s r) = c then turnedB (halA p s r) k else zb 32
def unwE (p s : List UInt8) (r : Int) (k c : List UInt8) : Int := if inR r then (if checkB s r k (halB p s r) = c then 0 else 10) else 1
theorem unwK_length (p s : List UInt8) (r : Int) (k c : List UInt8) (hk : k.length = 32) : (unwK p s r k c).length = 32 := by
  unfold unwK
  split
  · rw [turnedB_length, hk]
  · exact zb_length _
set_option maxHeartbeats 4000000 in
theorem unwrap_calls (v : Value) (p s : List UInt8) (r : Int) (k c : List UInt8) (H : AH) (hv : SL H v (p.map U8)) (hp : p.length ≤ 1099511627000) (hok : WK.ok ⟨s, r, k, c⟩) (hr0 : -9223372036854775808 ≤ r) (hr1 : r ≤ 9223372036854775807) :
    ACalls Try.prog 28 #[v, .agg (wcells s r k c).toArray] H fun w H' => w = .tuple #[.agg ((unwK p s r k c).map U8).toArray, .int .i64 (unwE p s r k c)] ∧ Ext H H' := by
  have hz32 := zb_length 32
  have hs : s.length = 16 := hok.1
  have hk : k.length = 32 := hok.2.1
  have hc : c.length = 32 := hok.2.2
  have hwl := wcells_length hok
  have hws := wcells_s hok
  have hws' := wcells_s' hok
  have hwr := wcells_r hok
  have hwk := wcells_k hok
  have hl1 := halA_length p s r
  have hl2 := halB_length p s r
  have hcl := checkB_length s r k (halB p s r)
  have hov0 : ovr ((zb 32).map U8) 0 ((zb 32).map U8) = (zb 32).map U8 := ovr_all _ _ rfl
  have fo_ : True := trivial
  have N_ := Now.start H
  have f_ := N_.has
  simp only [Has] at f_
  refine acalls_of_body Try.func28 rfl Try.ntmps28 (by simp) ?_
  simp only [argsT, Nat.reduceAdd]
  iterate 1 ((repeat first | refine Qo ?_ | refine Qn ?_); (first | (refine QK (by kernel_rfl) ?_; intro K_ hK_; simp -implicitDefEqProofs (disch := (try simp only [sl]); try omega) only [sm,QJ,Qj,Qi,Qq,QC,bd,look,aput,ty,↓reduceIte,Nat.reduceEqDiff,Nat.reduceAdd,Nat.reduceSub,Nat.reduceMul,Int.reduceLT,Int.reduceLE,Int.reduceNeg,Int.reduceToNat,reduceCtorEq,Nat.reduceBEq,Nat.reduceBNe,Qk,Qe,Value.cells,am,mm,keep, f_, hs, hk, hc, QO, zb_length, hl1, hl2, hwl, hws, hws', hwr, hwk, hcl, hov0]; refine hK_ _ _ ?_; clear hK_ K_; repeat first | refine QL ?_ | refine QM ?_)))
  first | refine AWp.snap8 N_ ?_ | refine AWp.snap7 N_ ?_ | refine AWp.snap6 N_ ?_ | refine AWp.snap5 N_ ?_ | refine AWp.snap4 N_ ?_ | refine AWp.snap3 N_ ?_ | refine AWp.snap2 N_ ?_ | refine AWp.snap1 N_ ?_
  clear fo_; have fo_ := f_; clear f_ N_; intro H1 xH1 lH1 N_
  have f_ := N_.has
  simp only [Has] at f_
  (repeat first | refine Qo ?_ | refine Qn ?_); refine QK (by kernel_rfl) ?_; intro K_ hK_; simp -implicitDefEqProofs (disch := (try simp only [sl]); try omega) only [sm,QJ,Qj,Qi,Qq,QC,Qz,bd,QF,look,aput,Qm,Qc,QA,Qh,ty,↓reduceIte,Nat.reduceEqDiff,Nat.reduceAdd,Nat.reduceSub,Nat.reduceMul,Int.reduceLT,Int.reduceLE,Int.reduceNeg,Int.reduceToNat,reduceCtorEq,Nat.reduceBEq,Nat.reduceBNe,Qk,Qe,Value.cells,am,mm,keep, f_, hs, hk, hc, QO, zb_length, hl1, hl2, hwl, hws, hws', hwr, hwk, hcl, hov0]
  refine ACalls.mono (halves_calls v p s r H1 (hv.mono xH1) hp hs hr0 hr1) ?_
  rintro _ H2 ⟨rfl, e2⟩
  replace N_ := N_.grow e2
  clear fo_; have fo_ := f_; clear f_
  have f_ := N_.has
  simp only [Has] at f_
  try simp -implicitDefEqProofs (disch := (try simp only [sl]); try omega) only [sm,QJ,Qj,Qi,Qq,QC,Qz,bd,QF,look,aput,Qm,Qc,QA,Qh,ty,↓reduceIte,Nat.reduceEqDiff,Nat.reduceAdd,Nat.reduceSub,Nat.reduceMul,Int.reduceLT,Int.reduceLE,Int.reduceNeg,Int.reduceToNat,reduceCtorEq,Nat.reduceBEq,Nat.reduceBNe,Qk,Qe,Value.cells,am,mm,keep, f_, hs, hk, hc, QO, zb_length, hl1, hl2, hwl, hws, hws', hwr, hwk, hcl, hov0]
  try (refine hK_ _ _ ?_; clear hK_ K_; repeat first | refine QL ?_ | refine QM ?_)
  first | refine AWp.snap8 N_ ?_ | refine AWp.snap7 N_ ?_ | refine AWp.snap6 N_ ?_ | refine AWp.snap5 N_ ?_ | refine AWp.snap4 N_ ?_ | refine AWp.snap3 N_ ?_ | refine AWp.snap2 N_ ?_ | refine AWp.snap1 N_ ?_
  clear fo_; have fo_ := f_; clear f_ N_; intro H3 xH3 lH3 N_
  have f_ := N_.has
  simp only [Has] at f_
  by_cases hin : inR r
  · have hE : halE r = 0 := by rw [halE, if_pos hin]
    iterate 1 ((repeat first | refine Qo ?_ | refine Qn ?_); (first | (refine QK (by kernel_rfl) ?_; intro K_ hK_; simp -implicitDefEqProofs (disch := (try simp only [sl]); try omega) only [sm,QJ,Qj,Qi,Qq,QC,bd,look,aput,QI,abin,anil,ty,↓reduceIte,Nat.reduceEqDiff,Nat.reduceAdd,Nat.reduceSub,Nat.reduceMul,Int.reduceLT,Int.reduceLE,Int.reduceNeg,Int.reduceToNat,reduceCtorEq,Nat.reduceBEq,Nat.reduceBNe,Qk,Qe,Value.cells,am,mm,keep, f_, hs, hk, hc, QO, zb_length, hl1, hl2, hwl, hws, hws', hwr, hwk, hcl, hov0, hE]; refine hK_ _ _ ?_; clear hK_ K_; repeat first | refine QL ?_ | refine QM ?_)))
    repeat first | refine Qo ?_ | refine Qn ?_
    refine awp_if false rfl (by simp only [aeval_tmp, look, ↓reduceIte, Nat.reduceEqDiff]; try rfl) (fun h => absurd h (by decide)) (fun _ => ?_)
    iterate 1 ((repeat first | refine Qo ?_ | refine Qn ?_); (first | (refine QK (by kernel_rfl) ?_; intro K_ hK_; simp -implicitDefEqProofs (disch := (try simp only [sl]); try omega) only [sm,QJ,Qj,Qi,Qq,QC,Qz,bd,QF,look,aput,Qm,QA,ty,↓reduceIte,Nat.reduceEqDiff,Nat.reduceAdd,Nat.reduceSub,Nat.reduceMul,Int.reduceLT,Int.reduceLE,Int.reduceNeg,Int.reduceToNat,reduceCtorEq,Nat.reduceBEq,Nat.reduceBNe,Qk,Qe,Value.cells,am,mm,keep, f_, hs, hk, hc, QO, zb_length, hl1, hl2, hwl, hws, hws', hwr, hwk, hcl, hov0]; refine hK_ _ _ ?_; clear hK_ K_; repeat first | refine QL ?_ | refine QM ?_) | (refine awp_skip ?_; repeat first | refine QL ?_ | refine QM ?_)))
    (repeat first | refine Qo ?_ | refine Qn ?_); refine QK (by kernel_rfl) ?_; intro K_ hK_; simp -implicitDefEqProofs (disch := (try simp only [sl]); try omega) only [sm,QJ,Qj,Qi,Qq,QC,Qz,bd,QF,look,aput,Qm,QA,ty,↓reduceIte,Nat.reduceEqDiff,Nat.reduceAdd,Nat.reduceSub,Nat.reduceMul,Int.reduceLT,Int.reduceLE,Int.reduceNeg,Int.reduceToNat,reduceCtorEq,Nat.reduceBEq,Nat.reduceBNe,Qk,Qe,Value.cells,am,mm,keep, f_, hs, hk, hc, QO, zb_length, hl1, hl2, hwl, hws, hws', hwr, hwk, hcl, hov0]
    refine ACalls.mono (wcheck_calls s r k c (halB p s r) H3 hok hl2) ?_
    rintro _ H4 ⟨rfl, e4⟩
    replace N_ := N_.grow e4
    clear fo_; have fo_ := f_; clear f_
    have f_ := N_.has
    simp only [Has] at f_
    try simp -implicitDefEqProofs (disch := (try simp only [sl]); try omega) only [sm,QJ,Qj,Qi,Qq,QC,Qz,bd,QF,look,aput,Qm,QA,ty,↓reduceIte,Nat.reduceEqDiff,Nat.reduceAdd,Nat.reduceSub,Nat.reduceMul,Int.reduceLT,Int.reduceLE,Int.reduceNeg,Int.reduceToNat,reduceCtorEq,Nat.reduceBEq,Nat.reduceBNe,Qk,Qe,Value.cells,am,mm,keep, f_, hs, hk, hc, QO, zb_length, hl1, hl2, hwl, hws, hws', hwr, hwk, hcl, hov0]
    try (refine hK_ _ _ ?_; clear hK_ K_; repeat first | refine QL ?_ | refine QM ?_)
    first | refine AWp.snap8 N_ ?_ | refine AWp.snap7 N_ ?_ | refine AWp.snap6 N_ ?_ | refine AWp.snap5 N_ ?_ | refine AWp.snap4 N_ ?_ | refine AWp.snap3 N_ ?_ | refine AWp.snap2 N_ ?_ | refine AWp.snap1 N_ ?_
    clear fo_; have fo_ := f_; clear f_ N_; intro H5 xH5 lH5 N_
    have f_ := N_.has
    simp only [Has] at f_
    (repeat first | refine Qo ?_ | refine Qn ?_); refine awp_region_drawK (id := 5) [(0, []), (1, []), (2, []), (3, []), (4, [])] mixed (by kernel_rfl) ?_; intro K_ hK_; simp -implicitDefEqProofs (disch := (try simp only [sl]); try omega) only [sm,aSel,Qu,Qv,Qw,Qx,Qy,Qj,Qi,Qq,QC,bd,look,aput,Qm,QG,Qc,Qr,loN,hiN,ty,↓reduceIte,Nat.reduceEqDiff,Nat.reduceAdd,Nat.reduceSub,Nat.reduceMul,Int.reduceLT,Int.reduceLE,Int.reduceNeg,Int.reduceToNat,reduceCtorEq,Nat.reduceBEq,Nat.reduceBNe,Qk,Qe,Value.cells,am,mm,keep, f_, hs, hk, hc, QO, zb_length, hl1, hl2, hwl, hws, hws', hwr, hwk, hcl, hov0]
    have t1 : SL H5 (.slice (some ⟨H4.length, 0, none⟩) 32 0) ((checkB s r k (halB p s r)).map U8) := SL.own 32 (by rw [List.length_map, hcl]) f_.1.2.1
    have t2 : SL H5 (.slice (some ⟨H.length, 49, none⟩) 32 0) (c.map U8) := SL.within 49 32 0 f_.2.2.2.2.1.2.2 (wcells_c hok) (by rw [hwl]; decide)
    refine ACalls.mono (equal_calls _ _ _ _ H5 t1 t2 (by rw [hcl]; decide)) ?_
    rintro _ _ ⟨rfl, hHH⟩
    rw [hHH]
    clear hHH
    simp -implicitDefEqProofs (disch := (try simp only [sl]); try omega) only [sm,aSel,Qu,Qv,Qw,Qx,Qy,Qj,Qi,Qq,QC,bd,look,aput,Qm,QG,Qc,Qr,loN,hiN,ty,↓reduceIte,Nat.reduceEqDiff,Nat.reduceAdd,Nat.reduceSub,Nat.reduceMul,Int.reduceLT,Int.reduceLE,Int.reduceNeg,Int.reduceToNat,reduceCtorEq,Nat.reduceBEq,Nat.reduceBNe,Qk,Qe,Value.cells,am,mm,keep, f_, hs, hk, hc, QO, zb_length, hl1, hl2, hwl, hws, hws', hwr, hwk, hcl, hov0]
    try (refine hK_ _ _ ?_; clear hK_ K_; repeat first | refine QL ?_ | refine QM ?_)
    by_cases heq : checkB s r k (halB p s r) = c
    · have hd : decide (checkB s r k (halB p s r) = c) = true := decide_eq_true heq
      try simp -implicitDefEqProofs (disch := (try simp only [sl]); try omega) only [sm,aSel,Qu,Qv,Qw,Qx,Qy,Qj,Qi,Qq,QC,bd,look,aput,Qm,QG,Qc,Qr,loN,hiN,ty,↓reduceIte,Nat.reduceEqDiff,Nat.reduceAdd,Nat.reduceSub,Nat.reduceMul,Int.reduceLT,Int.reduceLE,Int.reduceNeg,Int.reduceToNat,reduceCtorEq,Nat.reduceBEq,Nat.reduceBNe,Qk,Qe,Value.cells,am,mm,keep, f_, hs, hk, hc, QO, zb_length, hl1, hl2, hwl, hws, hws', hwr, hwk, hcl, hov0, hd, Bool.not_true]
      try (refine hK_ _ _ ?_; clear hK_ K_; repeat first | refine QL ?_ | refine QM ?_)
      repeat first | refine Qo ?_ | refine Qn ?_
      refine awp_if false rfl (by simp only [aeval_tmp, look, ↓reduceIte, Nat.reduceEqDiff]; try rfl) (fun h => absurd h (by decide)) (fun _ => ?_)
      iterate 1 ((repeat first | refine Qo ?_ | refine Qn ?_); (first | (refine QK (by kernel_rfl) ?_; intro K_ hK_; simp -implicitDefEqProofs (disch := (try simp only [sl]); try omega) only [sm,QJ,Qj,Qi,Qq,QC,Qz,bd,QF,look,aput,Qm,Qc,QA,ty,↓reduceIte,Nat.reduceEqDiff,Nat.reduceAdd,Nat.reduceSub,Nat.reduceMul,Int.reduceLT,Int.reduceLE,Int.reduceNeg,Int.reduceToNat,reduceCtorEq,Nat.reduceBEq,Nat.reduceBNe,Qk,Qe,Value.cells,am,mm,keep, f_, hs, hk, hc, QO, zb_length, hl1, hl2, hwl, hws, hws', hwr, hwk, hcl, hov0]; refine hK_ _ _ ?_; clear hK_ K_; repeat first | refine QL ?_ | refine QM ?_) | (refine awp_skip ?_; repeat first | refine QL ?_ | refine QM ?_)))
      (repeat first | refine Qo ?_ | refine Qn ?_); refine QK (by kernel_rfl) ?_; intro K_ hK_; simp -implicitDefEqProofs (disch := (try simp only [sl]); try omega) only [sm,QJ,Qj,Qi,Qq,QC,Qz,bd,QF,look,aput,Qm,Qc,QA,ty,↓reduceIte,Nat.reduceEqDiff,Nat.reduceAdd,Nat.reduceSub,Nat.reduceMul,Int.reduceLT,Int.reduceLE,Int.reduceNeg,Int.reduceToNat,reduceCtorEq,Nat.reduceBEq,Nat.reduceBNe,Qk,Qe,Value.cells,am,mm,keep, f_, hs, hk, hc, QO, zb_length, hl1, hl2, hwl, hws, hws', hwr, hwk, hcl, hov0]
      refine ACalls.mono (wturned_calls (halA p s r) k H5 hl1 hk) ?_
      rintro _ H6 ⟨rfl, e6⟩
      replace N_ := N_.grow e6
      clear fo_; have fo_ := f_; clear f_
      have f_ := N_.has
      simp only [Has] at f_
      have hK : unwK p s r k c = turnedB (halA p s r) k := by rw [unwK, if_pos ⟨hin, heq⟩]
      have hE' : unwE p s r k c = 0 := by rw [unwE, if_pos hin, if_pos heq]
      have ht1 : (turnedB (halA p s r) k).length = 32 := by rw [turnedB_length, hk]
      have hov1 : ovr ((zb 32).map U8) 0 ((turnedB (halA p s r) k).map U8) = (turnedB (halA p s r) k).map U8 := ovr_all _ _ (by rw [List.length_map, List.length_map, ht1, hz32])
      try simp -implicitDefEqProofs (disch := (try simp only [sl]); try omega) only [sm,QJ,Qj,Qi,Qq,QC,Qz,bd,QF,look,aput,Qm,Qc,QA,ty,↓reduceIte,Nat.reduceEqDiff,Nat.reduceAdd,Nat.reduceSub,Nat.reduceMul,Int.reduceLT,Int.reduceLE,Int.reduceNeg,Int.reduceToNat,reduceCtorEq,Nat.reduceBEq,Nat.reduceBNe,Qk,Qe,Value.cells,am,mm,keep, f_, hs, hk, hc, QO, zb_length, hl1, hl2, hwl, hws, hws', hwr, hwk, hcl, hov0, ht1, hov1]
      try (refine hK_ _ _ ?_; clear hK_ K_; repeat first | refine QL ?_ | refine QM ?_)
      first | refine awp_ret ?_ | skip
      show ∃ v, aresults Try.prog Try.f28 _ _ = some v ∧ _
      rw [aresults_2 (r := .cell 4 35) (s := .tmp 5) (by kernel_rfl)]
      simp -implicitDefEqProofs (disch := (try simp only [sl]); try omega) only [aresult, Option.some.injEq, exists_eq_left', sm,Qj,Qi,Qq,QC,Qz,bd,QF,look,aput,QB,Qf,QA,ty,↓reduceIte,Nat.reduceEqDiff,Nat.reduceAdd,Nat.reduceSub,Nat.reduceMul,Int.reduceLT,Int.reduceLE,Int.reduceNeg,Int.reduceToNat,reduceCtorEq,Nat.reduceBEq,Nat.reduceBNe,Qk,Qe,Value.cells,am,mm,keep, f_, hs, hk, hc, QO, zb_length, hl1, hl2, hwl, hws, hws', hwr, hwk, hcl, hov0]
      rw [hK, hE']
      refine ⟨rfl, ?_⟩
      exact N_.ext.set _ (by omega)
    · -- (cursor back)
      have hd : decide (checkB s r k (halB p s r) = c) = false := decide_eq_false heq
      try simp -implicitDefEqProofs (disch := (try simp only [sl]); try omega) only [sm,aSel,Qu,Qv,Qw,Qx,Qy,Qj,Qi,Qq,QC,bd,look,aput,Qm,QG,Qc,Qr,loN,hiN,ty,↓reduceIte,Nat.reduceEqDiff,Nat.reduceAdd,Nat.reduceSub,Nat.reduceMul,Int.reduceLT,Int.reduceLE,Int.reduceNeg,Int.reduceToNat,reduceCtorEq,Nat.reduceBEq,Nat.reduceBNe,Qk,Qe,Value.cells,am,mm,keep, f_, hs, hk, hc, QO, zb_length, hl1, hl2, hwl, hws, hws', hwr, hwk, hcl, hov0, hd, Bool.not_false]
      try (refine hK_ _ _ ?_; clear hK_ K_; repeat first | refine QL ?_ | refine QM ?_)
      repeat first | refine Qo ?_ | refine Qn ?_
      refine awp_if true rfl (by simp only [aeval_tmp, look, ↓reduceIte, Nat.reduceEqDiff]; try rfl) (fun _ => ?_) (fun h => absurd h (by decide))
      iterate 1 ((repeat first | refine Qo ?_ | refine Qn ?_); (first | (refine QK (by kernel_rfl) ?_; intro K_ hK_; simp -implicitDefEqProofs (disch := (try simp only [sl]); try omega) only [sm,QJ,Qj,Qi,Qq,QC,bd,look,aput,Qm,ty,↓reduceIte,Nat.reduceEqDiff,Nat.reduceAdd,Nat.reduceSub,Nat.reduceMul,Int.reduceLT,Int.reduceLE,Int.reduceNeg,Int.reduceToNat,reduceCtorEq,Nat.reduceBEq,Nat.reduceBNe,Qk,Qe,Value.cells,am,mm,keep, f_, hs, hk, hc, QO, zb_length, hl1, hl2, hwl, hws, hws', hwr, hwk, hcl, hov0]; refine hK_ _ _ ?_; clear hK_ K_; repeat first | refine QL ?_ | refine QM ?_)))
      first | refine awp_ret ?_ | skip
      show ∃ v, aresults Try.prog Try.f28 _ _ = some v ∧ _
      rw [aresults_2 (r := .cell 4 35) (s := .tmp 5) (by kernel_rfl)]
      simp -implicitDefEqProofs (disch := (try simp only [sl]); try omega) only [aresult, Option.some.injEq, exists_eq_left', sm,Qj,Qi,Qq,QC,Qz,bd,QF,look,aput,QB,Qf,QA,ty,↓reduceIte,Nat.reduceEqDiff,Nat.reduceAdd,Nat.reduceSub,Nat.reduceMul,Int.reduceLT,Int.reduceLE,Int.reduceNeg,Int.reduceToNat,reduceCtorEq,Nat.reduceBEq,Nat.reduceBNe,Qk,Qe,Value.cells,am,mm,keep, f_, hs, hk, hc, QO, zb_length, hl1, hl2, hwl, hws, hws', hwr, hwk, hcl, hov0]
      rw [unwK, unwE, if_pos hin, if_neg heq, if_neg (fun h => heq h.2)]
      refine ⟨rfl, ?_⟩
      exact N_.ext.set _ (by omega)
  · have hE : halE r = 1 := by rw [halE, if_neg hin]
    iterate 1 ((repeat first | refine Qo ?_ | refine Qn ?_); (first | (refine QK (by kernel_rfl) ?_; intro K_ hK_; simp -implicitDefEqProofs (disch := (try simp only [sl]); try omega) only [sm,QJ,Qj,Qi,Qq,QC,bd,look,aput,QI,abin,anil,ty,↓reduceIte,Nat.reduceEqDiff,Nat.reduceAdd,Nat.reduceSub,Nat.reduceMul,Int.reduceLT,Int.reduceLE,Int.reduceNeg,Int.reduceToNat,reduceCtorEq,Nat.reduceBEq,Nat.reduceBNe,Qk,Qe,Value.cells,am,mm,keep, f_, hs, hk, hc, QO, zb_length, hl1, hl2, hwl, hws, hws', hwr, hwk, hcl, hov0, hE]; refine hK_ _ _ ?_; clear hK_ K_; repeat first | refine QL ?_ | refine QM ?_)))
    repeat first | refine Qo ?_ | refine Qn ?_
    refine awp_if true rfl (by simp only [aeval_tmp, look, ↓reduceIte, Nat.reduceEqDiff]; try rfl) (fun _ => ?_) (fun h => absurd h (by decide))
    iterate 1 ((repeat first | refine Qo ?_ | refine Qn ?_); (first | (refine QK (by kernel_rfl) ?_; intro K_ hK_; simp -implicitDefEqProofs (disch := (try simp only [sl]); try omega) only [sm,QJ,Qj,Qi,Qq,QC,bd,look,aput,Qm,ty,↓reduceIte,Nat.reduceEqDiff,Nat.reduceAdd,Nat.reduceSub,Nat.reduceMul,Int.reduceLT,Int.reduceLE,Int.reduceNeg,Int.reduceToNat,reduceCtorEq,Nat.reduceBEq,Nat.reduceBNe,Qk,Qe,Value.cells,am,mm,keep, f_, hs, hk, hc, QO, zb_length, hl1, hl2, hwl, hws, hws', hwr, hwk, hcl, hov0]; refine hK_ _ _ ?_; clear hK_ K_; repeat first | refine QL ?_ | refine QM ?_)))
    first | refine awp_ret ?_ | skip
    show ∃ v, aresults Try.prog Try.f28 _ _ = some v ∧ _
    rw [aresults_2 (r := .cell 4 35) (s := .tmp 5) (by kernel_rfl)]
    simp -implicitDefEqProofs (disch := (try simp only [sl]); try omega) only [aresult, Option.some.injEq, exists_eq_left', sm,Qj,Qi,Qq,QC,Qz,bd,QF,look,aput,QB,Qf,QA,ty,↓reduceIte,Nat.reduceEqDiff,Nat.reduceAdd,Nat.reduceSub,Nat.reduceMul,Int.reduceLT,Int.reduceLE,Int.reduceNeg,Int.reduceToNat,reduceCtorEq,Nat.reduceBEq,Nat.reduceBNe,Qk,Qe,Value.cells,am,mm,keep, f_, hs, hk, hc, QO, zb_length, hl1, hl2, hwl, hws, hws', hwr, hwk, hcl, hov0]
    rw [unwK, unwE, if_neg hin, if_neg (fun h => hin h.1)]
    refine ⟨rfl, ?_⟩
    exact N_.ext.set _ (by omega)
set_option maxHeartbeats 4000000 in
theorem again_calls (v v2 : Value) (p p2 s s2 : List UInt8) (r : Int) (k c : List UInt8) (H : AH) (hv : SL H v (p.map U8)) (hp : p.length ≤ 1099511627000) (hv2 : SL H v2 (p2.map U8)) (hp2 : p2.length ≤ 1099511627000) (hs2 : s2.length = 16) (hok : WK.ok ⟨s, r, k, c⟩) (hr0 : -9223372036854775808 ≤ r) (hr1 : r ≤ 9223372036854775807) :
    ACalls Try.prog 31 #[v, v2, .agg (s2.map U8).toArray, .agg (wcells s r k c).toArray] H fun w H' => (unwE p s r k c ≠ 0 ∧ w = .tuple #[.agg (wcells (zb 16) 0 (zb 32) (zb 32)).toArray, .int .i64 (unwE p s r k c)] ∨ unwE p s r k c = 0 ∧ w = .tuple #[.agg (wcells (wrapS s2 r) (wrapR r) (wrapK p2 s2 r (unwK p s r k c)) (wrapC p2 s2 r (unwK p s r k c))).toArray, .int .i64 (halE r)]) ∧ Ext H H' := by
  have hz32 := zb_length 32
  have hk : k.length = 32 := hok.2.1
  have hwl := wcells_length hok
  have hwr := wcells_r hok
  have hul := unwK_length p s r k c hk
  have hwz := wcells_length WK.zero_ok
  have hwa := wcells_cellv
  have htk : List.take 81 (wcells s r k c) = wcells s r k c := List.take_of_length_le (by rw [hwl]; decide)
  have hovz : ovr (wcells (zb 16) 0 (zb 32) (zb 32)) 0 (wcells (zb 16) 0 (zb 32) (zb 32)) = wcells (zb 16) 0 (zb 32) (zb 32) := ovr_all _ _ rfl
  have fo_ : True := trivial
  have N_ := Now.start H
  have f_ := N_.has
  simp only [Has] at f_
  refine acalls_of_body Try.func31 rfl Try.ntmps31 (by simp) ?_
  simp only [argsT, Nat.reduceAdd]
  iterate 1 ((repeat first | refine Qo ?_ | refine Qn ?_); (first | (refine QK (by kernel_rfl) ?_; intro K_ hK_; simp -implicitDefEqProofs (disch := (try simp only [sl]); try omega) only [sm,QJ,Qj,Qi,Qq,QC,bd,look,aput,ty,↓reduceIte,Nat.reduceEqDiff,Nat.reduceAdd,Nat.reduceSub,Nat.reduceMul,Int.reduceLT,Int.reduceLE,Int.reduceNeg,Int.reduceToNat,reduceCtorEq,Nat.reduceBEq,Nat.reduceBNe,Qk,Qe,Value.cells,am,mm,keep, f_, hs2, QO, zb_length, zW, hwz, hwl, hwr, hwa, hul, hovz, htk]; refine hK_ _ _ ?_; clear hK_ K_; repeat first | refine QL ?_ | refine QM ?_)))
  first | refine AWp.snap8 N_ ?_ | refine AWp.snap7 N_ ?_ | refine AWp.snap6 N_ ?_ | refine AWp.snap5 N_ ?_ | refine AWp.snap4 N_ ?_ | refine AWp.snap3 N_ ?_ | refine AWp.snap2 N_ ?_ | refine AWp.snap1 N_ ?_
  clear fo_; have fo_ := f_; clear f_ N_; intro H1 xH1 lH1 N_
  have f_ := N_.has
  simp only [Has] at f_
  (repeat first | refine Qo ?_ | refine Qn ?_); refine QK (by kernel_rfl) ?_; intro K_ hK_; simp -implicitDefEqProofs (disch := (try simp only [sl]); try omega) only [sm,QJ,Qj,Qi,Qq,QC,Qz,bd,QF,look,aput,Qm,QA,Qh,ty,↓reduceIte,Nat.reduceEqDiff,Nat.reduceAdd,Nat.reduceSub,Nat.reduceMul,Int.reduceLT,Int.reduceLE,Int.reduceNeg,Int.reduceToNat,reduceCtorEq,Nat.reduceBEq,Nat.reduceBNe,Qk,Qe,Value.cells,am,mm,keep, f_, hs2, QO, zb_length, zW, hwz, hwl, hwr, hwa, hul, hovz, htk]
  refine ACalls.mono (unwrap_calls v p s r k c H1 (hv.mono xH1) hp hok hr0 hr1) ?_
  rintro _ H2 ⟨rfl, e2⟩
  replace N_ := N_.grow e2
  clear fo_; have fo_ := f_; clear f_
  have f_ := N_.has
  simp only [Has] at f_
  try simp -implicitDefEqProofs (disch := (try simp only [sl]); try omega) only [sm,QJ,Qj,Qi,Qq,QC,Qz,bd,QF,look,aput,Qm,QA,Qh,ty,↓reduceIte,Nat.reduceEqDiff,Nat.reduceAdd,Nat.reduceSub,Nat.reduceMul,Int.reduceLT,Int.reduceLE,Int.reduceNeg,Int.reduceToNat,reduceCtorEq,Nat.reduceBEq,Nat.reduceBNe,Qk,Qe,Value.cells,am,mm,keep, f_, hs2, QO, zb_length, zW, hwz, hwl, hwr, hwa, hul, hovz, htk]
  try (refine hK_ _ _ ?_; clear hK_ K_; repeat first | refine QL ?_ | refine QM ?_)
  first | refine AWp.snap8 N_ ?_ | refine AWp.snap7 N_ ?_ | refine AWp.snap6 N_ ?_ | refine AWp.snap5 N_ ?_ | refine AWp.snap4 N_ ?_ | refine AWp.snap3 N_ ?_ | refine AWp.snap2 N_ ?_ | refine AWp.snap1 N_ ?_
  clear fo_; have fo_ := f_; clear f_ N_; intro H3 xH3 lH3 N_
  have f_ := N_.has
  simp only [Has] at f_
  by_cases hin : unwE p s r k c = 0
  · -- R2
    iterate 1 ((repeat first | refine Qo ?_ | refine Qn ?_); (first | (refine QK (by kernel_rfl) ?_; intro K_ hK_; simp -implicitDefEqProofs (disch := (try simp only [sl]); try omega) only [sm,QJ,Qj,Qi,Qq,QC,bd,look,aput,QI,abin,anil,ty,↓reduceIte,Nat.reduceEqDiff,Nat.reduceAdd,Nat.reduceSub,Nat.reduceMul,Int.reduceLT,Int.reduceLE,Int.reduceNeg,Int.reduceToNat,reduceCtorEq,Nat.reduceBEq,Nat.reduceBNe,Qk,Qe,Value.cells,am,mm,keep, f_, hs2, QO, zb_length, zW, hwz, hwl, hwr, hwa, hul, hovz, htk, hin, aint]; refine hK_ _ _ ?_; clear hK_ K_; repeat first | refine QL ?_ | refine QM ?_)))
    repeat first | refine Qo ?_ | refine Qn ?_
    refine awp_if false rfl (by simp only [aeval_tmp, look, ↓reduceIte, Nat.reduceEqDiff]; try rfl) (fun h => absurd h (by decide)) (fun _ => ?_)
    iterate 1 ((repeat first | refine Qo ?_ | refine Qn ?_); (first | (refine QK (by kernel_rfl) ?_; intro K_ hK_; simp -implicitDefEqProofs (disch := (try simp only [sl]); try omega) only [sm,QJ,Qj,Qi,Qq,QC,Qz,bd,QF,look,aput,Qm,Qc,QA,Qh,ty,↓reduceIte,Nat.reduceEqDiff,Nat.reduceAdd,Nat.reduceSub,Nat.reduceMul,Int.reduceLT,Int.reduceLE,Int.reduceNeg,Int.reduceToNat,reduceCtorEq,Nat.reduceBEq,Nat.reduceBNe,Qk,Qe,Value.cells,am,mm,keep, f_, hs2, QO, zb_length, zW, hwz, hwl, hwr, hwa, hul, hovz, htk]; refine hK_ _ _ ?_; clear hK_ K_; repeat first | refine QL ?_ | refine QM ?_) | (refine awp_skip ?_; repeat first | refine QL ?_ | refine QM ?_)))
    (repeat first | refine Qo ?_ | refine Qn ?_); refine QK (by kernel_rfl) ?_; intro K_ hK_; simp -implicitDefEqProofs (disch := (try simp only [sl]); try omega) only [sm,QJ,Qj,Qi,Qq,QC,Qz,bd,QF,look,aput,Qm,Qc,QA,Qh,ty,↓reduceIte,Nat.reduceEqDiff,Nat.reduceAdd,Nat.reduceSub,Nat.reduceMul,Int.reduceLT,Int.reduceLE,Int.reduceNeg,Int.reduceToNat,reduceCtorEq,Nat.reduceBEq,Nat.reduceBNe,Qk,Qe,Value.cells,am,mm,keep, f_, hs2, QO, zb_length, zW, hwz, hwl, hwr, hwa, hul, hovz, htk]
    refine ACalls.mono (wrap_calls v2 p2 s2 r (unwK p s r k c) H3 ((hv2.mono xH1).mono (e2.trans xH3)) hp2 hs2 hul hr0 hr1) ?_
    rintro _ H4 ⟨rfl, e4⟩
    replace N_ := N_.grow e4
    clear fo_; have fo_ := f_; clear f_
    have f_ := N_.has
    simp only [Has] at f_
    have hwo := wrap_ok p2 s2 r (unwK p s r k c) hs2 hul
    have hwl2 := wcells_length hwo
    have hov2 : ovr (wcells (zb 16) 0 (zb 32) (zb 32)) 0 (wcells (wrapS s2 r) (wrapR r) (wrapK p2 s2 r (unwK p s r k c)) (wrapC p2 s2 r (unwK p s r k c))) = wcells (wrapS s2 r) (wrapR r) (wrapK p2 s2 r (unwK p s r k c)) (wrapC p2 s2 r (unwK p s r k c)) := ovr_all _ _ (by rw [hwl2, hwz])
    try simp -implicitDefEqProofs (disch := (try simp only [sl]); try omega) only [sm,QJ,Qj,Qi,Qq,QC,Qz,bd,QF,look,aput,Qm,Qc,QA,Qh,ty,↓reduceIte,Nat.reduceEqDiff,Nat.reduceAdd,Nat.reduceSub,Nat.reduceMul,Int.reduceLT,Int.reduceLE,Int.reduceNeg,Int.reduceToNat,reduceCtorEq,Nat.reduceBEq,Nat.reduceBNe,Qk,Qe,Value.cells,am,mm,keep, f_, hs2, QO, zb_length, zW, hwz, hwl, hwr, hwa, hul, hovz, htk, hwl2, hov2]
    try (refine hK_ _ _ ?_; clear hK_ K_; repeat first | refine QL ?_ | refine QM ?_)
    first | refine awp_ret ?_ | skip
    show ∃ v, aresults Try.prog Try.f31 _ _ = some v ∧ _
    rw [aresults_2 (r := .cell 8 47) (s := .tmp 9) (by kernel_rfl)]
    simp -implicitDefEqProofs (disch := (try simp only [sl]); try omega) only [aresult, Option.some.injEq, exists_eq_left', sm,Qj,Qi,Qq,QC,Qz,bd,QF,look,aput,QB,Qf,QA,ty,↓reduceIte,Nat.reduceEqDiff,Nat.reduceAdd,Nat.reduceSub,Nat.reduceMul,Int.reduceLT,Int.reduceLE,Int.reduceNeg,Int.reduceToNat,reduceCtorEq,Nat.reduceBEq,Nat.reduceBNe,Qk,Qe,Value.cells,am,mm,keep, f_, hs2, QO, zb_length, zW, hwz, hwl, hwr, hwa, hul, hovz, htk, hwl2]
    refine ⟨?_, ?_⟩
    · first | exact hin | exact .inr hin | exact .inr ⟨hin, rfl⟩ | trace_state
    · exact N_.ext.set _ (by omega)
  · -- (cursor back)
    have hne : (unwE p s r k c != 0) = true := by simp [hin]
    iterate 1 ((repeat first | refine Qo ?_ | refine Qn ?_); (first | (refine QK (by kernel_rfl) ?_; intro K_ hK_; simp -implicitDefEqProofs (disch := (try simp only [sl]); try omega) only [sm,QJ,Qj,Qi,Qq,QC,bd,look,aput,QI,abin,anil,ty,↓reduceIte,Nat.reduceEqDiff,Nat.reduceAdd,Nat.reduceSub,Nat.reduceMul,Int.reduceLT,Int.reduceLE,Int.reduceNeg,Int.reduceToNat,reduceCtorEq,Nat.reduceBEq,Nat.reduceBNe,Qk,Qe,Value.cells,am,mm,keep, f_, hs2, QO, zb_length, zW, hwz, hwl, hwr, hwa, hul, hovz, htk, aint, hne]; refine hK_ _ _ ?_; clear hK_ K_; repeat first | refine QL ?_ | refine QM ?_)))
    repeat first | refine Qo ?_ | refine Qn ?_
    refine awp_if true rfl (by simp only [aeval_tmp, look, ↓reduceIte, Nat.reduceEqDiff]; try rfl) (fun _ => ?_) (fun h => absurd h (by decide))
    iterate 1 ((repeat first | refine Qo ?_ | refine Qn ?_); (first | (refine QK (by kernel_rfl) ?_; intro K_ hK_; simp -implicitDefEqProofs (disch := (try simp only [sl]); try omega) only [sm,QJ,Qj,Qi,Qq,QC,bd,look,aput,Qm,ty,↓reduceIte,Nat.reduceEqDiff,Nat.reduceAdd,Nat.reduceSub,Nat.reduceMul,Int.reduceLT,Int.reduceLE,Int.reduceNeg,Int.reduceToNat,reduceCtorEq,Nat.reduceBEq,Nat.reduceBNe,Qk,Qe,Value.cells,am,mm,keep, f_, hs2, QO, zb_length, zW, hwz, hwl, hwr, hwa, hul, hovz, htk]; refine hK_ _ _ ?_; clear hK_ K_; repeat first | refine QL ?_ | refine QM ?_)))
    first | refine awp_ret ?_ | skip
    show ∃ v, aresults Try.prog Try.f31 _ _ = some v ∧ _
    rw [aresults_2 (r := .cell 8 47) (s := .tmp 9) (by kernel_rfl)]
    simp -implicitDefEqProofs (disch := (try simp only [sl]); try omega) only [aresult, Option.some.injEq, exists_eq_left', sm,Qj,Qi,Qq,QC,Qz,bd,QF,look,aput,QB,Qf,QA,ty,↓reduceIte,Nat.reduceEqDiff,Nat.reduceAdd,Nat.reduceSub,Nat.reduceMul,Int.reduceLT,Int.reduceLE,Int.reduceNeg,Int.reduceToNat,reduceCtorEq,Nat.reduceBEq,Nat.reduceBNe,Qk,Qe,Value.cells,am,mm,keep, f_, hs2, QO, zb_length, zW, hwz, hwl, hwr, hwa, hul, hovz, htk]
    refine ⟨?_, ?_⟩
    · first | exact hin | exact .inl hin | exact .inl ⟨hin, rfl⟩ | trace_state
    · exact N_.ext.set _ (by omega)
end Go.Proofs.Ytelpdppdhimfoaa
