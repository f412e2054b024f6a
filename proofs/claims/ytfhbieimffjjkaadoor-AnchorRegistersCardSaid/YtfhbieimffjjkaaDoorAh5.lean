/- anchor: Parse. -/
import Derived.Test.YtfhbieimffjjkaaDoorAh2
import Derived.Test.YtfhbieimffjjkaaDoorCpy
import Derived.Test.YtfhbieimffjjkaaDoorPk4
namespace Go.Proofs.YtfhbieimffjjkaaDoor
open Go Go.RowKit
--hide
set_option linter.unusedSimpArgs false
set_option linter.unusedVariables false
set_option maxRecDepth 4000
theorem inI.wi {n : Int} (h : inI n) : IntKind.i64.wrap n = n := by
  unfold inI at h; exact wi64 _ (by omega) (by omega)
theorem all_copy (ds ws : List UInt8) (h : ds.length = 32) (hw : ws.length = 32) : (ds.map U8).take 0 ++ ws.map U8 ++ (ds.map U8).drop (0 + 32) = ws.map U8 := by
  rw [List.drop_of_length_le (by rw [List.length_map, h]; decide), List.append_nil]; rfl
theorem rd_num (b : List UInt8) (i k : Nat) (most : UInt64) (h : i + k ≤ b.length) (hk : k ≤ 8) (hm : 256 ^ k ≤ most.toNat + 1) : Rd.num ⟨b.drop i, 0⟩ k most = leN ((b.drop i).take k) ∧ Rd.num' ⟨b.drop i, 0⟩ k most = ⟨b.drop (i + k), 0⟩ := by
  have hl : k ≤ (b.drop i).length := by rw [List.length_drop]; omega
  have h1 : Rd.bytes ⟨b.drop i, 0⟩ k = (b.drop i).take k := by rw [Rd.bytes, if_pos ⟨rfl, hl⟩]
  have h2 : Rd.bytes' ⟨b.drop i, 0⟩ k = ⟨b.drop (i + k), 0⟩ := by rw [Rd.bytes', if_pos rfl, if_pos hl, List.drop_drop]
  have h3 : (leN ((b.drop i).take k)).toNat ≤ most.toNat := by
    have h4 := tk_len b i k h
    rw [leN_toNat _ (by omega)]
    have := leNat_lt ((b.drop i).take k)
    rw [h4] at this
    omega
  rw [Rd.num, Rd.num', h1, h2, if_pos h3, if_pos h3]
  exact ⟨rfl, rfl⟩
set_option maxHeartbeats 4000000 in
theorem adigest_calls (g : Nat) (b : List UInt8) (i : Nat) (H : AH) (B : Nat) (hB : B ≤ g) (h : RdI B H g ⟨b.drop i, 0⟩) (hl : b.length ≤ 1000) (h32 : i + 32 ≤ b.length) :
    ACalls Tryd.prog 72 #[.pointer (some ⟨g, 0, none⟩)] H fun w H' => w = .agg (((b.drop i).take 32).map U8).toArray ∧ RdI B H' g ⟨b.drop (i + 32), 0⟩ ∧ But g H H' := by
  have hz32 := zb_length 32
  have hgl := h.lt
  have hdl := tk_len b i 32 h32
  have hov : ovr ((zb 32).map U8) 0 (((b.drop i).take 32).map U8) = ((b.drop i).take 32).map U8 := ovr_all _ _ (by rw [List.length_map, List.length_map, hdl, hz32])
  have fo_ : True := trivial
  have N_ := Now.start H
  have f_ := N_.has
  simp only [Has] at f_
  refine acalls_of_body Tryd.func72 rfl Tryd.ntmps72 (by simp) ?_
  simp only [argsT, Nat.reduceAdd]
  iterate 2 ((repeat first | refine Qo ?_ | refine Qn ?_); (first | (refine QK (by kernel_rfl) ?_; intro K_ hK_; simp -implicitDefEqProofs (disch := (try simp only [sl]); try omega) only [sm,QJ,Qj,Qi,Qq,QC,bd,look,aput,ty,↓reduceIte,Nat.reduceEqDiff,Nat.reduceAdd,Nat.reduceSub,Nat.reduceMul,Int.reduceLT,Int.reduceLE,Int.reduceNeg,Int.reduceToNat,reduceCtorEq,Nat.reduceBEq,Nat.reduceBNe,Qk,Qe,Value.cells,am,mm,keep, f_, fo_, QO, hz32, hdl, bd, hov]; refine hK_ _ _ ?_; clear hK_ K_; repeat first | refine QL ?_ | refine QM ?_)))
  first | refine AWp.snap8 N_ ?_ | refine AWp.snap7 N_ ?_ | refine AWp.snap6 N_ ?_ | refine AWp.snap5 N_ ?_ | refine AWp.snap4 N_ ?_ | refine AWp.snap3 N_ ?_ | refine AWp.snap2 N_ ?_ | refine AWp.snap1 N_ ?_
  clear fo_; have fo_ := f_; clear f_ N_; intro H1 xH1 lH1 N_
  have f_ := N_.has
  simp only [Has] at f_
  have i1 := h.mono xH1
  (repeat first | refine Qo ?_ | refine Qn ?_); refine awp_region_drawK (id := 2) [(0, []), (1, []), (2, []), (3, [])] mixed (by kernel_rfl) ?_; intro K_ hK_; simp -implicitDefEqProofs (disch := (try simp only [sl]); try omega) only [sm,aSel,Qu,Qv,Qw,Qx,Qy,Qj,Qi,Qq,QC,bd,look,aput,Qm,Qr,loN,hiN,ty,↓reduceIte,Nat.reduceEqDiff,Nat.reduceAdd,Nat.reduceSub,Nat.reduceMul,Int.reduceLT,Int.reduceLE,Int.reduceNeg,Int.reduceToNat,reduceCtorEq,Nat.reduceBEq,Nat.reduceBNe,Qk,Qe,Value.cells,am,mm,keep, f_, fo_, QO, hz32, hdl, bd, hov]
  refine ACalls.mono (rdbytes_calls g 32 _ H1 B hB i1 (by simp only [List.length_drop]; omega) (by decide) (by decide)) ?_
  rintro u H2 ⟨i2, b2, o2⟩
  rw [show (32 : Int).toNat = 32 from rfl] at i2 o2
  have r1 : Rd.bytes ⟨b.drop i, 0⟩ 32 = (b.drop i).take 32 := by rw [Rd.bytes, if_pos ⟨rfl, by simp only [List.length_drop]; omega⟩]
  have r2 : Rd.bytes' ⟨b.drop i, 0⟩ 32 = ⟨b.drop (i + 32), 0⟩ := by rw [Rd.bytes', if_pos rfl, if_pos (by simp only [List.length_drop]; omega), List.drop_drop]
  rw [r1] at o2
  rw [r2] at i2
  have q0 := b2 _ _ (by omega) f_.2.1.2.1
  have q1 := b2 _ _ (by omega) f_.1.2.1
  have c1 := AH.cells_own q1
  have g1 := got_lt q1
  obtain ⟨pu, nu, eu, rfl⟩ := o2.sl.isSlice
  have hc : acopy Tryd.prog H2 22 22 (.slice (some ⟨H.length + 1, 0, none⟩) 32 0) (.slice pu nu eu) = _ := copy_at (n := 32) (bytes := 1) (by simp only [ty]) (by simp only [ty]) o2.sl (all8 _) q1 (by rw [List.length_map, hdl]) (by rw [List.length_map, hz32]; decide) (by decide)
  rw [all_copy _ _ hz32 hdl] at hc
  try simp -implicitDefEqProofs (disch := (try simp only [sl]); try omega) only [sm,aSel,Qu,Qv,Qw,Qx,Qy,Qj,Qi,Qq,QC,bd,look,aput,Qm,Qr,loN,hiN,ty,↓reduceIte,Nat.reduceEqDiff,Nat.reduceAdd,Nat.reduceSub,Nat.reduceMul,Int.reduceLT,Int.reduceLE,Int.reduceNeg,Int.reduceToNat,reduceCtorEq,Nat.reduceBEq,Nat.reduceBNe,Qk,Qe,Value.cells,am,mm,keep, q0, q1, c1, g1, QO, hz32, hdl, bd, hov, hc]
  try (refine hK_ _ _ ?_; clear hK_ K_; repeat first | refine QL ?_ | refine QM ?_)
  iterate 1 ((repeat first | refine Qo ?_ | refine Qn ?_); (first | (refine QK (by kernel_rfl) ?_; intro K_ hK_; simp -implicitDefEqProofs (disch := (try simp only [sl]); try omega) only [sm,QJ,Qj,Qi,Qq,QC,Qz,bd,QF,look,aput,Qm,QA,ty,↓reduceIte,Nat.reduceEqDiff,Nat.reduceAdd,Nat.reduceSub,Nat.reduceMul,Int.reduceLT,Int.reduceLE,Int.reduceNeg,Int.reduceToNat,reduceCtorEq,Nat.reduceBEq,Nat.reduceBNe,Qk,Qe,Value.cells,am,mm,keep, q0, q1, c1, g1, QO, hz32, hdl, bd, hov]; refine hK_ _ _ ?_; clear hK_ K_; repeat first | refine QL ?_ | refine QM ?_)))
  first | refine awp_ret ?_ | skip
  show ∃ v, aresults Tryd.prog Tryd.f72 _ _ = some v ∧ _
  rw [aresults_1 (r := .cell 2 53) (by kernel_rfl)]
  simp -implicitDefEqProofs (disch := (try simp only [sl]); try omega) only [aresult, Option.some.injEq, exists_eq_left', sm,Qj,Qi,Qq,QC,Qz,bd,QF,look,aput,QB,Qf,QA,ty,↓reduceIte,Nat.reduceEqDiff,Nat.reduceAdd,Nat.reduceSub,Nat.reduceMul,Int.reduceLT,Int.reduceLE,Int.reduceNeg,Int.reduceToNat,reduceCtorEq,Nat.reduceBEq,Nat.reduceBNe,Qk,Qe,Value.cells,am,mm,keep, q0, q1, c1, g1, QO, hz32, hdl, bd, hov]
  exact ⟨(i2.but (by omega) (by omega) (set_other H2 (H.length + 1) _)).but (by omega) (by omega) (set_other _ H.length _), (((But.of_ext xH1).trans b2).setnew (by omega) _).setnew (by omega) _⟩
theorem ovr_hd (v pg : Int) (ep : UInt32) (hp rp : Int) (re : UInt32) (rt : List UInt8) (cm : UInt64) (z d : List UInt8) (hz : z.length = 32) (hd : d.length = 32) : ovr (ac ⟨v, pg, ep, hp, z, rp, re, rt, cm⟩) 4 (d.map U8) = ac ⟨v, pg, ep, hp, d, rp, re, rt, cm⟩ := by
  rw [ovr_mid _ _ _ (by rw [List.length_map, hd]; decide), List.length_map, hd]
  simp only [ac]
  rw [List.take_append_of_le_length (by simp), List.take_of_length_le (by simp), ← List.append_assoc, List.drop_append_of_le_length (by simp [hz]), List.drop_of_length_le (by simp [hz]), List.nil_append, List.append_assoc]
theorem ovr_rt (v pg : Int) (ep : UInt32) (hp rp : Int) (re : UInt32) (hd : List UInt8) (cm : UInt64) (z d : List UInt8) (hh : hd.length = 32) (hz : z.length = 32) (hl : d.length = 32) : ovr (ac ⟨v, pg, ep, hp, hd, rp, re, z, cm⟩) 38 (d.map U8) = ac ⟨v, pg, ep, hp, hd, rp, re, d, cm⟩ := by
  rw [ovr_mid _ _ _ (by rw [List.length_map, hl]; decide), List.length_map, hl]
  simp only [ac]
  rw [← List.append_assoc, ← List.append_assoc, List.take_append_of_le_length (by simp [hh]), List.take_of_length_le (by simp [hh]), ← List.append_assoc, List.drop_append_of_le_length (by simp [hh, hz]), List.drop_of_length_le (by simp [hh, hz]), List.nil_append]
  simp only [List.append_assoc]
theorem set_rp (v pg : Int) (ep : UInt32) (hp rp rp' : Int) (re : UInt32) (hd rt : List UInt8) (cm : UInt64) (hh : hd.length = 32) : (ac ⟨v, pg, ep, hp, hd, rp, re, rt, cm⟩).set 36 (.int .i64 rp') = ac ⟨v, pg, ep, hp, hd, rp', re, rt, cm⟩ := by
  simp only [ac]
  rw [List.set_append_right _ _ (by simp), List.set_append_right _ _ (by simp [hh])]
  simp [hh]
theorem set_re (v pg : Int) (ep : UInt32) (hp rp : Int) (re re' : UInt32) (hd rt : List UInt8) (cm : UInt64) (hh : hd.length = 32) : (ac ⟨v, pg, ep, hp, hd, rp, re, rt, cm⟩).set 37 (.int .u32 (re'.toNat : Int)) = ac ⟨v, pg, ep, hp, hd, rp, re', rt, cm⟩ := by
  simp only [ac]
  rw [List.set_append_right _ _ (by simp), List.set_append_right _ _ (by simp [hh])]
  simp [hh]
theorem set_cm (v pg : Int) (ep : UInt32) (hp rp : Int) (re : UInt32) (hd rt : List UInt8) (cm cm' : UInt64) (hh : hd.length = 32) (hr : rt.length = 32) : (ac ⟨v, pg, ep, hp, hd, rp, re, rt, cm⟩).set 70 (.int .u64 (cm'.toNat : Int)) = ac ⟨v, pg, ep, hp, hd, rp, re, rt, cm'⟩ := by
  simp only [ac]
  rw [List.set_append_right _ _ (by simp), List.set_append_right _ _ (by simp [hh]), List.set_append_right _ _ (by simp [hh]), List.set_append_right _ _ (by simp [hh, hr])]
  simp [hh, hr]
end Go.Proofs.YtfhbieimffjjkaaDoor
