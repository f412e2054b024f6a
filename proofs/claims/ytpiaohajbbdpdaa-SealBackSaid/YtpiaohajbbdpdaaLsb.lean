/- The statement SealBack: walked. -/
import Derived.Test.YtpiaohajbbdpdaaSll
namespace Go.Proofs.Ytpiaohajbbdpdaa
open Go Go.RowKit
--hide
--big
set_option linter.unusedSimpArgs false
set_option linter.unusedVariables false
set_option maxRecDepth 4000
theorem and1 (a : Nat) (h : a < 9223372036854775808) : aint .and .i64 (a : Int) 1 = some (.int .i64 ((a % 2 : Nat) : Int)) := by
  have e : ∀ x : Nat, x < 18446744073709551616 → (BitVec.ofInt 64 (x : Int)).toNat = x := fun x hx => by
    rw [BitVec.ofInt_natCast, BitVec.toNat_ofNat]; exact Nat.mod_eq_of_lt (by omega)
  have hb : bits .and .i64 (a : Int) 1 = ((a % 2 : Nat) : Int) := by
    show IntKind.i64.wrap ((BitVec.ofInt 64 (a : Int) &&& BitVec.ofInt 64 ((1 : Nat) : Int)).toNat : Int) = _
    rw [BitVec.toNat_and, e a (by omega), e 1 (by omega), Nat.and_one_is_mod, wi64 _ (by omega) (by omega)]
  rw [aint, hb]
theorem xor1_ne (x : UInt8) : x ^^^ 1 ≠ x := by
  intro h
  have : (x ^^^ 1) ^^^ x = 0 := by rw [h, UInt8.xor_self]
  rw [UInt8.xor_comm x 1, UInt8.xor_assoc, UInt8.xor_self, UInt8.xor_zero] at this
  exact absurd this (by decide)
theorem flip_ne {d : List UInt8} {i : Nat} (h : i < d.length) : d ≠ d.set i (d.getD i 0 ^^^ 1) := by
  intro e
  have h1 := congrArg (fun l => l.getD i 0) e
  simp only [List.getD_eq_getElem?_getD, List.getElem?_set_self h, List.getElem?_eq_getElem h, Option.getD_some] at h1
  exact xor1_ne _ h1.symm
theorem rc_at {d : List UInt8} {i : Nat} (h : i < d.length) (p : Int) (e : UInt32) : (rc p e d)[2 + i]? = some (.int .u8 ((d.getD i 0).toNat : Int)) := by
  show ([Value.int .i64 p] ++ ([U32 e] ++ d.map U8))[2 + i]? = _
  rw [show 2 + i = i + 1 + 1 by omega]
  exact mg8 d i h
theorem rc_set {d : List UInt8} {i : Nat} (p : Int) (e : UInt32) (x : UInt8) : (rc p e d).set (2 + i) (.int .u8 (x.toNat : Int)) = rc p e (d.set i x) := by
  show ([Value.int .i64 p] ++ ([U32 e] ++ d.map U8)).set (2 + i) _ = _
  rw [show 2 + i = i + 1 + 1 by omega]
  show _ :: _ :: (d.map U8).set i _ = _
  rw [ms8]; rfl
set_option maxHeartbeats 8000000 in
theorem sback_law : ALaw Try.prog 5 [25, 26, 49] := by
  intro H vs hro hlen hv
  match vs, hlen with
  | [v0, v1, v2], _ =>
  obtain ⟨k, e, p, n, rfl, hk, hp0, hp1, hn0, hn1⟩ := ask9_arg (hv 0 _ v0 rfl rfl)
  obtain ⟨⟨vb, b⟩, hvb, hb, hbl⟩ := arg26 (hv 1 _ v1 rfl rfl)
  cases hvb
  obtain ⟨w, hw, -⟩ := arg49 (hv 2 _ v2 rfl rfl)
  cases hw
  clear hv
  simp only [] at hb hbl
  have lb := alen_sl (P := Try.prog) (T := 26) (by simp only [ty]) hb
  rw [List.length_map] at lb
  have hal := ac9_length (e := e) (p := p) (n := n) hk
  have hac := ac9_cellv (k := k) (e := e) (p := p) (n := n)
  have hak := ac9_k (e := e) (p := p) (n := n) hk
  have hae := ac9_e (e := e) (p := p) (n := n) hk
  have hap := ac9_p (e := e) (p := p) (n := n) hk
  have han := ac9_n (e := e) (p := p) (n := n) hk
  have hz32 := zb_length 32
  have hrz := rc_length hz32 0 0
  have hra := rc_cellv
  have hii : ∀ n : Int, (n == n) = true := fun n => by simp
  have h00 : ((0 : Int) != 0) = false := rfl
  have hwm : (w % 32).toNat < 32 := by rw [UInt16.toNat_mod]; exact Nat.mod_lt _ (by decide)
  have hrem := arem16r 32 w (by decide) (by decide)
  have fo_ : True := trivial
  have N_ := Now.start H
  have f_ := N_.has
  simp only [Has] at f_
  refine acalls_of_body Try.func5 rfl Try.ntmps5 (by simp) ?_
  simp only [argsT, Nat.reduceAdd]
  iterate 1 ((repeat first | refine Qo ?_ | refine Qn ?_); (first | (refine QK (by kernel_rfl) ?_; intro K_ hK_; simp -implicitDefEqProofs (maxSteps := 1000000) (disch := (try simp only [sl]); try omega) only [sm,QJ,Qj,Qi,Qq,QC,bd,look,aput,ty,↓reduceIte,Nat.reduceEqDiff,Nat.reduceAdd,Nat.reduceSub,Nat.reduceMul,Int.reduceLT,Int.reduceLE,Int.reduceNeg,Int.reduceToNat,reduceCtorEq,Nat.reduceBEq,Nat.reduceBNe,Qk,Qe,Value.cells,am,mm,keep, f_, fo_, aint, lb, hk, hal, hac, hak, hae, hap, han, zR, zRr, hrz, hra, hii]; refine hK_ _ _ ?_; clear hK_ K_; repeat first | refine QL ?_ | refine QM ?_)))
  first | refine AWp.snap8 N_ ?_ | refine AWp.snap7 N_ ?_ | refine AWp.snap6 N_ ?_ | refine AWp.snap5 N_ ?_ | refine AWp.snap4 N_ ?_ | refine AWp.snap3 N_ ?_ | refine AWp.snap2 N_ ?_ | refine AWp.snap1 N_ ?_
  clear fo_; have fo_ := f_; clear f_ N_; intro H1 xH1 lH1 N_
  have f_ := N_.has
  simp only [Has] at f_
  by_cases hf1 : b.length > 256
  · -- R1
    iterate 1 ((repeat first | refine Qo ?_ | refine Qn ?_); (first | (refine QK (by kernel_rfl) ?_; intro K_ hK_; simp -implicitDefEqProofs (maxSteps := 1000000) (disch := (try simp only [sl]); try omega) only [sm,QJ,Qj,Qi,Qq,QC,Qz,bd,QF,look,aput,QI,abin,anil,Qc,QA,ty,↓reduceIte,Nat.reduceEqDiff,Nat.reduceAdd,Nat.reduceSub,Nat.reduceMul,Int.reduceLT,Int.reduceLE,Int.reduceNeg,Int.reduceToNat,reduceCtorEq,Nat.reduceBEq,Nat.reduceBNe,Qk,Qe,Value.cells,am,mm,keep, f_, fo_, aint, lb, hk, hal, hac, hak, hae, hap, han, zR, zRr, hrz, hra, hii, hf1]; refine hK_ _ _ ?_; clear hK_ K_; repeat first | refine QL ?_ | refine QM ?_)))
    repeat first | refine Qo ?_ | refine Qn ?_
    refine awp_if true rfl (by simp only [aeval_tmp, look, ↓reduceIte, Nat.reduceEqDiff]; try rfl) (fun _ => ?_) (fun h => absurd h (by decide))
    (repeat first | refine Qo ?_ | refine Qn ?_); refine QK (by kernel_rfl) ?_; intro K_ hK_; simp -implicitDefEqProofs (maxSteps := 1000000) (disch := (try simp only [sl]); try omega) only [sm,QJ,Qj,Qi,Qq,QC,bd,look,aput,Qm,ty,↓reduceIte,Nat.reduceEqDiff,Nat.reduceAdd,Nat.reduceSub,Nat.reduceMul,Int.reduceLT,Int.reduceLE,Int.reduceNeg,Int.reduceToNat,reduceCtorEq,Nat.reduceBEq,Nat.reduceBNe,Qk,Qe,Value.cells,am,mm,keep, f_, fo_, aint, lb, hk, hal, hac, hak, hae, hap, han, zR, zRr, hrz, hra, hii]
    refine ACalls.mono (salive_calls _) ?_
    rintro _ H3 ⟨rfl, e3⟩
    try simp -implicitDefEqProofs (maxSteps := 1000000) (disch := (try simp only [sl]); try omega) only [sm,QJ,Qj,Qi,Qq,QC,bd,look,aput,Qm,ty,↓reduceIte,Nat.reduceEqDiff,Nat.reduceAdd,Nat.reduceSub,Nat.reduceMul,Int.reduceLT,Int.reduceLE,Int.reduceNeg,Int.reduceToNat,reduceCtorEq,Nat.reduceBEq,Nat.reduceBNe,Qk,Qe,Value.cells,am,mm,keep, f_, fo_, aint, lb, hk, hal, hac, hak, hae, hap, han, zR, zRr, hrz, hra, hii]
    try (refine hK_ _ _ ?_; clear hK_ K_; repeat first | refine QL ?_ | refine QM ?_)
    first | refine awp_ret ?_ | skip
    show ∃ v, aresults Try.prog Try.f5 _ _ = some v ∧ _
    rw [aresults_1 (r := .tmp 6) (by kernel_rfl)]
    simp -implicitDefEqProofs (disch := (try simp only [sl]); try omega) only [aresult, Option.some.injEq, exists_eq_left', sm,Qj,Qi,Qq,QC,Qz,bd,QF,look,aput,QB,Qf,QA,ty,↓reduceIte,Nat.reduceEqDiff,Nat.reduceAdd,Nat.reduceSub,Nat.reduceMul,Int.reduceLT,Int.reduceLE,Int.reduceNeg,Int.reduceToNat,reduceCtorEq,Nat.reduceBEq,Nat.reduceBNe,Qk,Qe,Value.cells,am,mm,keep, f_, fo_, aint, lb, hk, hal, hac, hak, hae, hap, han, zR, zRr, hrz, hra, hii]
  by_cases hf2 : n < 0
  · -- (cursor back)
    iterate 1 ((repeat first | refine Qo ?_ | refine Qn ?_); (first | (refine QK (by kernel_rfl) ?_; intro K_ hK_; simp -implicitDefEqProofs (maxSteps := 1000000) (disch := (try simp only [sl]); try omega) only [sm,QJ,Qj,Qi,Qq,QC,Qz,bd,QF,look,aput,QI,abin,anil,Qc,QA,ty,↓reduceIte,Nat.reduceEqDiff,Nat.reduceAdd,Nat.reduceSub,Nat.reduceMul,Int.reduceLT,Int.reduceLE,Int.reduceNeg,Int.reduceToNat,reduceCtorEq,Nat.reduceBEq,Nat.reduceBNe,Qk,Qe,Value.cells,am,mm,keep, f_, fo_, aint, lb, hk, hal, hac, hak, hae, hap, han, zR, zRr, hrz, hra, hii, hf1, hf2]; refine hK_ _ _ ?_; clear hK_ K_; repeat first | refine QL ?_ | refine QM ?_)))
    repeat first | refine Qo ?_ | refine Qn ?_
    refine awp_if true rfl (by simp only [aeval_tmp, look, ↓reduceIte, Nat.reduceEqDiff]; try rfl) (fun _ => ?_) (fun h => absurd h (by decide))
    (repeat first | refine Qo ?_ | refine Qn ?_); refine QK (by kernel_rfl) ?_; intro K_ hK_; simp -implicitDefEqProofs (maxSteps := 1000000) (disch := (try simp only [sl]); try omega) only [sm,QJ,Qj,Qi,Qq,QC,bd,look,aput,Qm,ty,↓reduceIte,Nat.reduceEqDiff,Nat.reduceAdd,Nat.reduceSub,Nat.reduceMul,Int.reduceLT,Int.reduceLE,Int.reduceNeg,Int.reduceToNat,reduceCtorEq,Nat.reduceBEq,Nat.reduceBNe,Qk,Qe,Value.cells,am,mm,keep, f_, fo_, aint, lb, hk, hal, hac, hak, hae, hap, han, zR, zRr, hrz, hra, hii]
    refine ACalls.mono (salive_calls _) ?_
    rintro _ H3 ⟨rfl, e3⟩
    try simp -implicitDefEqProofs (maxSteps := 1000000) (disch := (try simp only [sl]); try omega) only [sm,QJ,Qj,Qi,Qq,QC,bd,look,aput,Qm,ty,↓reduceIte,Nat.reduceEqDiff,Nat.reduceAdd,Nat.reduceSub,Nat.reduceMul,Int.reduceLT,Int.reduceLE,Int.reduceNeg,Int.reduceToNat,reduceCtorEq,Nat.reduceBEq,Nat.reduceBNe,Qk,Qe,Value.cells,am,mm,keep, f_, fo_, aint, lb, hk, hal, hac, hak, hae, hap, han, zR, zRr, hrz, hra, hii]
    try (refine hK_ _ _ ?_; clear hK_ K_; repeat first | refine QL ?_ | refine QM ?_)
    first | refine awp_ret ?_ | skip
    show ∃ v, aresults Try.prog Try.f5 _ _ = some v ∧ _
    rw [aresults_1 (r := .tmp 6) (by kernel_rfl)]
    simp -implicitDefEqProofs (disch := (try simp only [sl]); try omega) only [aresult, Option.some.injEq, exists_eq_left', sm,Qj,Qi,Qq,QC,Qz,bd,QF,look,aput,QB,Qf,QA,ty,↓reduceIte,Nat.reduceEqDiff,Nat.reduceAdd,Nat.reduceSub,Nat.reduceMul,Int.reduceLT,Int.reduceLE,Int.reduceNeg,Int.reduceToNat,reduceCtorEq,Nat.reduceBEq,Nat.reduceBNe,Qk,Qe,Value.cells,am,mm,keep, f_, fo_, aint, lb, hk, hal, hac, hak, hae, hap, han, zR, zRr, hrz, hra, hii]
  iterate 1 ((repeat first | refine Qo ?_ | refine Qn ?_); (first | (refine QK (by kernel_rfl) ?_; intro K_ hK_; simp -implicitDefEqProofs (maxSteps := 1000000) (disch := (try simp only [sl]); try omega) only [sm,QJ,Qj,Qi,Qq,QC,Qz,bd,QF,look,aput,QI,abin,anil,Qc,QA,ty,↓reduceIte,Nat.reduceEqDiff,Nat.reduceAdd,Nat.reduceSub,Nat.reduceMul,Int.reduceLT,Int.reduceLE,Int.reduceNeg,Int.reduceToNat,reduceCtorEq,Nat.reduceBEq,Nat.reduceBNe,Qk,Qe,Value.cells,am,mm,keep, f_, fo_, aint, lb, hk, hal, hac, hak, hae, hap, han, zR, zRr, hrz, hra, hii, hf1, hf2]; refine hK_ _ _ ?_; clear hK_ K_; repeat first | refine QL ?_ | refine QM ?_)))
  repeat first | refine Qo ?_ | refine Qn ?_
  refine awp_if false rfl (by simp only [aeval_tmp, look, ↓reduceIte, Nat.reduceEqDiff]; try rfl) (fun h => absurd h (by decide)) (fun _ => ?_)
  obtain ⟨m, rfl⟩ := Int.eq_ofNat_of_zero_le (show 0 ≤ n by omega)
  have ha1 := and1 m (by omega)
  have f1 := f_
  iterate 1 ((repeat first | refine Qo ?_ | refine Qn ?_); (first | (refine awp_region_drawK (id := 3) [(0, []), (1, []), (2, []), (3, []), (4, []), (5, []), (6, []), (7, []), (8, []), (9, []), (16, []), (10, [1, 3, 5, 8]), (11, []), (12, []), (13, []), (14, []), (15, []), (17, []), (18, []), (19, [])] mixed (by kernel_rfl) ?_; intro K_ hK_; simp -implicitDefEqProofs (maxSteps := 1000000) (disch := (try simp only [sl]); try omega) only [sm,aSel,Qu,Qv,Qw,Qx,Qy,Qj,Qi,Qq,QC,Qz,bd,QF,look,aput,Qm,QI,abin,anil,Qc,QA,Qh,ty,↓reduceIte,Nat.reduceEqDiff,Nat.reduceAdd,Nat.reduceSub,Nat.reduceMul,Int.reduceLT,Int.reduceLE,Int.reduceNeg,Int.reduceToNat,reduceCtorEq,Nat.reduceBEq,Nat.reduceBNe,Qk,Qe,Value.cells,am,mm,keep, f_, fo_, f1, lb, hk, hal, hac, hak, hae, hap, han, zR, zRr, hrz, hra, hii, ha1]; refine hK_ _ _ ?_; clear hK_ K_; repeat first | refine QL ?_ | refine QM ?_) | (refine awp_skip ?_; repeat first | refine QL ?_ | refine QM ?_)))
  (repeat first | refine Qo ?_ | refine Qn ?_); refine awp_region_drawK (id := 3) [(0, []), (1, []), (2, []), (3, []), (4, []), (5, []), (6, []), (7, []), (8, []), (9, []), (16, []), (10, [1, 3, 5, 8]), (11, []), (12, []), (13, []), (14, []), (15, []), (17, []), (18, []), (19, [])] mixed (by kernel_rfl) ?_; intro K_ hK_; simp -implicitDefEqProofs (maxSteps := 1000000) (disch := (try simp only [sl]); try omega) only [sm,aSel,Qu,Qv,Qw,Qx,Qy,Qj,Qi,Qq,QC,Qz,bd,QF,look,aput,Qm,QI,abin,anil,Qc,QA,Qh,ty,↓reduceIte,Nat.reduceEqDiff,Nat.reduceAdd,Nat.reduceSub,Nat.reduceMul,Int.reduceLT,Int.reduceLE,Int.reduceNeg,Int.reduceToNat,reduceCtorEq,Nat.reduceBEq,Nat.reduceBNe,Qk,Qe,Value.cells,am,mm,keep, f_, fo_, f1, lb, hk, hal, hac, hak, hae, hap, han, zR, zRr, hrz, hra, hii, ha1]
  first | refine ACalls.snap8 N_ ?_ | refine ACalls.snap7 N_ ?_ | refine ACalls.snap6 N_ ?_ | refine ACalls.snap5 N_ ?_ | refine ACalls.snap4 N_ ?_ | refine ACalls.snap3 N_ ?_ | refine ACalls.snap2 N_ ?_ | refine ACalls.snap1 N_ ?_
  clear fo_; have fo_ := f_; clear f_ N_; intro Ha xHa lHa N_
  have f_ := N_.has
  simp only [Has] at f_
  refine ACalls.mono (page_calls vb b Ha (hb.mono N_.ext)) ?_
  rintro vp H2 ⟨hp2, e2⟩
  replace N_ := N_.grow e2
  clear fo_; have fo_ := f_; clear f_
  have f_ := N_.has
  simp only [Has] at f_
  try simp -implicitDefEqProofs (maxSteps := 1000000) (disch := (try simp only [sl]); try omega) only [sm,aSel,Qu,Qv,Qw,Qx,Qy,Qj,Qi,Qq,QC,Qz,bd,QF,look,aput,Qm,QI,abin,anil,Qc,QA,Qh,ty,↓reduceIte,Nat.reduceEqDiff,Nat.reduceAdd,Nat.reduceSub,Nat.reduceMul,Int.reduceLT,Int.reduceLE,Int.reduceNeg,Int.reduceToNat,reduceCtorEq,Nat.reduceBEq,Nat.reduceBNe,Qk,Qe,Value.cells,am,mm,keep, f_, fo_, f1, lb, hk, hal, hac, hak, hae, hap, han, zR, zRr, hrz, hra, hii, ha1]
  try (refine hK_ _ _ ?_; clear hK_ K_; repeat first | refine QL ?_ | refine QM ?_)
  refine ACalls.mono (hide_calls k e ((m % 2 : Nat) : Int) (m : Int) vp (pageB b) H2 hk hp2) ?_
  rintro _ H3 ⟨⟨x, rfl, hx⟩, e3⟩
  have hpl := pageB_length b
  have hok : okH ((m % 2 : Nat) : Int) (m : Int) (pageB b) := ⟨⟨hpl, by omega⟩, by omega⟩
  rw [hdK, if_pos hok] at hx
  rw [hdR, if_pos hok, hdE, if_pos hok]
  have htl : (trn k e m (pageB b)).length = 256 := by rw [trn_length, hpl]
  have htt := trn_trn k e m (pageB b)
  generalize trn k e m (pageB b) = T at *
  have hdl := digest_length T
  generalize hD : digest T = D at *
  generalize hq : ((m % 2 : Nat) : Int) = q at *
  have hov := rc_ovr hz32 hdl 0 q 0 e
  have hrl := rc_length hdl q e
  have htk := rc_take hdl q e
  replace N_ := N_.grow e3
  clear fo_; have fo_ := f_; clear f_
  have f_ := N_.has
  simp only [Has] at f_
  have hfar := hx.far f_.1.2.2 (by rw [hrz, List.length_map, htl]; decide)
  try simp -implicitDefEqProofs (maxSteps := 1000000) (disch := (try simp only [sl]); try omega) only [sm,aSel,Qu,Qv,Qw,Qx,Qy,Qj,Qi,Qq,QC,Qz,bd,QF,look,aput,Qm,QI,abin,anil,Qc,QA,Qh,ty,↓reduceIte,Nat.reduceEqDiff,Nat.reduceAdd,Nat.reduceSub,Nat.reduceMul,Int.reduceLT,Int.reduceLE,Int.reduceNeg,Int.reduceToNat,reduceCtorEq,Nat.reduceBEq,Nat.reduceBNe,Qk,Qe,Value.cells,am,mm,keep, f_, fo_, f1, lb, hk, hal, hac, hak, hae, hap, han, zR, zRr, hrz, hra, hii, ha1, hov, hrl]
  try (refine hK_ _ _ ?_; clear hK_ K_; repeat first | refine QL ?_ | refine QM ?_)
  refine AWp.snapset N_ (by omega) (by omega) ?_
  clear fo_; have fo_ := f_; clear f_ N_; intro H4 lH4 xH4 N_; simp (disch := omega) only [List.map_cons, List.map_nil, if_pos, if_neg, ↓reduceIte] at N_
  have f_ := N_.has
  simp only [Has] at f_
  have hx4 := hx.other hfar xH4
  (repeat first | refine Qo ?_ | refine Qn ?_); refine QK (by kernel_rfl) ?_; intro K_ hK_; simp -implicitDefEqProofs (maxSteps := 1000000) (disch := (try simp only [sl]); try omega) only [sm,QJ,Qj,Qi,Qq,QC,Qz,bd,QF,look,aput,Qm,Qc,QA,Qh,ty,↓reduceIte,Nat.reduceEqDiff,Nat.reduceAdd,Nat.reduceSub,Nat.reduceMul,Int.reduceLT,Int.reduceLE,Int.reduceNeg,Int.reduceToNat,reduceCtorEq,Nat.reduceBEq,Nat.reduceBNe,Qk,Qe,Value.cells,am,mm,keep, f_, fo_, f1, lb, hk, hal, hac, hak, hae, hap, han, zR, zRr, hrz, hra, hii, ha1, htk, hrl]
  refine ACalls.mono (open_calls k q e D (m : Int) x T H4 hk hdl hx4) ?_
  rintro _ H5 ⟨⟨y, rfl, hy⟩, e5⟩
  have hokO : okO D (m : Int) T := ⟨⟨htl, by omega⟩, hD⟩
  rw [opK, if_pos hokO, htt] at hy
  rw [opE, if_pos hokO.1, if_pos hokO.2]
  replace N_ := N_.grow e5
  clear fo_; have fo_ := f_; clear f_
  have f_ := N_.has
  simp only [Has] at f_
  try simp -implicitDefEqProofs (maxSteps := 1000000) (disch := (try simp only [sl]); try omega) only [sm,QJ,Qj,Qi,Qq,QC,Qz,bd,QF,look,aput,Qm,Qc,QA,Qh,ty,↓reduceIte,Nat.reduceEqDiff,Nat.reduceAdd,Nat.reduceSub,Nat.reduceMul,Int.reduceLT,Int.reduceLE,Int.reduceNeg,Int.reduceToNat,reduceCtorEq,Nat.reduceBEq,Nat.reduceBNe,Qk,Qe,Value.cells,am,mm,keep, f_, fo_, f1, lb, hk, hal, hac, hak, hae, hap, han, zR, zRr, hrz, hra, hii, ha1]
  try (refine hK_ _ _ ?_; clear hK_ K_; repeat first | refine QL ?_ | refine QM ?_)
  clear fo_
  have fo_ := True.intro
  (repeat first | refine Qo ?_ | refine Qn ?_); refine QK (by kernel_rfl) ?_; intro K_ hK_; simp -implicitDefEqProofs (maxSteps := 1000000) (disch := (try simp only [sl]); try omega) only [sm,QJ,Qj,Qi,Qq,QC,bd,look,aput,Qm,QI,abin,anil,QG,ty,↓reduceIte,Nat.reduceEqDiff,Nat.reduceAdd,Nat.reduceSub,Nat.reduceMul,Int.reduceLT,Int.reduceLE,Int.reduceNeg,Int.reduceToNat,reduceCtorEq,Nat.reduceBEq,Nat.reduceBNe,Qk,Qe,Value.cells,am,mm,keep, f_, fo_, aint, h00, hk, hal, hac, hak, hae, hap, han, hrl, hra, hii]
  refine ACalls.mono (page_calls vb b H5 (hb.mono N_.ext)) ?_
  rintro vp2 H6 ⟨hp6, e6⟩
  replace N_ := N_.grow e6
  clear fo_; have fo_ := f_; clear f_
  have f_ := N_.has
  simp only [Has] at f_
  try simp -implicitDefEqProofs (maxSteps := 1000000) (disch := (try simp only [sl]); try omega) only [sm,QJ,Qj,Qi,Qq,QC,bd,look,aput,Qm,QI,abin,anil,QG,ty,↓reduceIte,Nat.reduceEqDiff,Nat.reduceAdd,Nat.reduceSub,Nat.reduceMul,Int.reduceLT,Int.reduceLE,Int.reduceNeg,Int.reduceToNat,reduceCtorEq,Nat.reduceBEq,Nat.reduceBNe,Qk,Qe,Value.cells,am,mm,keep, f_, fo_, aint, h00, hk, hal, hac, hak, hae, hap, han, hrl, hra, hii]
  try (refine hK_ _ _ ?_; clear hK_ K_; repeat first | refine QL ?_ | refine QM ?_)
  refine ACalls.mono (same_calls y vp2 _ _ H6 (hy.mono e6) hp6 (by omega)) ?_
  rintro _ _ ⟨rfl, hHH⟩
  rw [hHH]
  clear hHH
  simp -implicitDefEqProofs (maxSteps := 1000000) (disch := (try simp only [sl]); try omega) only [sm,QJ,Qj,Qi,Qq,QC,bd,look,aput,Qm,QI,abin,anil,QG,ty,↓reduceIte,Nat.reduceEqDiff,Nat.reduceAdd,Nat.reduceSub,Nat.reduceMul,Int.reduceLT,Int.reduceLE,Int.reduceNeg,Int.reduceToNat,reduceCtorEq,Nat.reduceBEq,Nat.reduceBNe,Qk,Qe,Value.cells,am,mm,keep, f_, fo_, aint, h00, hk, hal, hac, hak, hae, hap, han, hrl, hra, hii]
  try (refine hK_ _ _ ?_; clear hK_ K_; repeat first | refine QL ?_ | refine QM ?_)
  try simp -implicitDefEqProofs (maxSteps := 1000000) (disch := (try simp only [sl]); try omega) only [sm,QJ,Qj,Qi,Qq,QC,bd,look,aput,Qm,QI,abin,anil,QG,ty,↓reduceIte,Nat.reduceEqDiff,Nat.reduceAdd,Nat.reduceSub,Nat.reduceMul,Int.reduceLT,Int.reduceLE,Int.reduceNeg,Int.reduceToNat,reduceCtorEq,Nat.reduceBEq,Nat.reduceBNe,Qk,Qe,Value.cells,am,mm,keep, f_, fo_, aint, h00, hk, hal, hac, hak, hae, hap, han, hrl, hra, hii, decide_true, Bool.not_true]
  try (refine hK_ _ _ ?_; clear hK_ K_; repeat first | refine QL ?_ | refine QM ?_)
  repeat first | refine Qo ?_ | refine Qn ?_
  refine awp_if false rfl (by simp only [aeval_tmp, look, ↓reduceIte, Nat.reduceEqDiff]; try rfl) (fun h => absurd h (by decide)) (fun _ => ?_)
  have hat := rc_at (d := D) (i := (w % 32).toNat) (by omega) q e
  have hset := rc_set (d := D) (i := (w % 32).toNat) q e (D.getD (w % 32).toNat 0 ^^^ 1)
  have hx8 := axor8r 1 (D.getD (w % 32).toNat 0) (by decide)
  have hne := flip_ne (d := D) (i := (w % 32).toNat) (by omega)
  generalize hi : (w % 32).toNat = i at *
  have hdl' : (D.set i (D.getD i 0 ^^^ 1)).length = 32 := by rw [List.length_set]; exact hdl
  iterate 2 ((repeat first | refine Qo ?_ | refine Qn ?_); (first | (refine QK (by kernel_rfl) ?_; intro K_ hK_; simp -implicitDefEqProofs (maxSteps := 1000000) (disch := (try simp only [sl]); try omega) only [sm,QJ,Qj,Qi,Qq,QC,Qz,bd,QF,look,aput,Qm,QI,abin,anil,Qb,Qc,QA,ty,↓reduceIte,Nat.reduceEqDiff,Nat.reduceAdd,Nat.reduceSub,Nat.reduceMul,Int.reduceLT,Int.reduceLE,Int.reduceNeg,Int.reduceToNat,reduceCtorEq,Nat.reduceBEq,Nat.reduceBNe,Qk,Qe,Value.cells,am,mm,keep, f_, fo_, hk, hal, hac, hak, hae, hap, han, hrl, hra, hii, hat, hset, hrem, hi, hx8]; refine hK_ _ _ ?_; clear hK_ K_; repeat first | refine QL ?_ | refine QM ?_) | (refine awp_skip ?_; repeat first | refine QL ?_ | refine QM ?_)))
  generalize D.set i (D.getD i 0 ^^^ 1) = D' at *
  have hrl' := rc_length hdl' q e
  have htk' := rc_take hdl' q e
  have hx6 := hx4.mono (e5.trans e6)
  refine AWp.snapset N_ (by omega) (by omega) ?_
  clear fo_; have fo_ := f_; clear f_ N_; intro H7 lH7 xH7 N_; simp (disch := omega) only [List.map_cons, List.map_nil, if_pos, if_neg, ↓reduceIte] at N_
  have f_ := N_.has
  simp only [Has] at f_
  have hx7 := hx6.other hfar xH7
  (repeat first | refine Qo ?_ | refine Qn ?_); refine QK (by kernel_rfl) ?_; intro K_ hK_; simp -implicitDefEqProofs (maxSteps := 1000000) (disch := (try simp only [sl]); try omega) only [sm,QJ,Qj,Qi,Qq,QC,Qz,bd,QF,look,aput,Qm,Qc,QA,Qh,ty,↓reduceIte,Nat.reduceEqDiff,Nat.reduceAdd,Nat.reduceSub,Nat.reduceMul,Int.reduceLT,Int.reduceLE,Int.reduceNeg,Int.reduceToNat,reduceCtorEq,Nat.reduceBEq,Nat.reduceBNe,Qk,Qe,Value.cells,am,mm,keep, f_, fo_, aint, hk, hal, hac, hak, hae, hap, han, hrl', htk', hra, hii]
  refine ACalls.mono (open_calls k q e D' (m : Int) x T H7 hk hdl' hx7) ?_
  rintro _ H8 ⟨⟨z, rfl, hz⟩, e8⟩
  rw [opE, if_pos hokO.1, if_neg (by rw [hD]; exact hne)]
  replace N_ := N_.grow e8
  clear fo_; have fo_ := f_; clear f_
  have f_ := N_.has
  simp only [Has] at f_
  try simp -implicitDefEqProofs (maxSteps := 1000000) (disch := (try simp only [sl]); try omega) only [sm,QJ,Qj,Qi,Qq,QC,Qz,bd,QF,look,aput,Qm,Qc,QA,Qh,ty,↓reduceIte,Nat.reduceEqDiff,Nat.reduceAdd,Nat.reduceSub,Nat.reduceMul,Int.reduceLT,Int.reduceLE,Int.reduceNeg,Int.reduceToNat,reduceCtorEq,Nat.reduceBEq,Nat.reduceBNe,Qk,Qe,Value.cells,am,mm,keep, f_, fo_, aint, hk, hal, hac, hak, hae, hap, han, hrl', htk', hra, hii]
  try (refine hK_ _ _ ?_; clear hK_ K_; repeat first | refine QL ?_ | refine QM ?_)
  (repeat first | refine Qo ?_ | refine Qn ?_); refine QK (by kernel_rfl) ?_; intro K_ hK_; simp -implicitDefEqProofs (maxSteps := 1000000) (disch := (try simp only [sl]); try omega) only [sm,QJ,Qj,Qi,Qq,QC,bd,look,aput,Qm,QI,abin,anil,ty,↓reduceIte,Nat.reduceEqDiff,Nat.reduceAdd,Nat.reduceSub,Nat.reduceMul,Int.reduceLT,Int.reduceLE,Int.reduceNeg,Int.reduceToNat,reduceCtorEq,Nat.reduceBEq,Nat.reduceBNe,Qk,Qe,Value.cells,am,mm,keep, f_, fo_, aint, hk, hal, hac, hak, hae, hap, han, hrl', htk', hra, hii]
  refine ACalls.mono (salive_calls _) ?_
  rintro _ H10 ⟨rfl, e10⟩
  try simp -implicitDefEqProofs (maxSteps := 1000000) (disch := (try simp only [sl]); try omega) only [sm,QJ,Qj,Qi,Qq,QC,bd,look,aput,Qm,QI,abin,anil,ty,↓reduceIte,Nat.reduceEqDiff,Nat.reduceAdd,Nat.reduceSub,Nat.reduceMul,Int.reduceLT,Int.reduceLE,Int.reduceNeg,Int.reduceToNat,reduceCtorEq,Nat.reduceBEq,Nat.reduceBNe,Qk,Qe,Value.cells,am,mm,keep, f_, fo_, aint, hk, hal, hac, hak, hae, hap, han, hrl', htk', hra, hii]
  try (refine hK_ _ _ ?_; clear hK_ K_; repeat first | refine QL ?_ | refine QM ?_)
  first | refine awp_ret ?_ | skip
  show ∃ v, aresults Try.prog Try.f5 _ _ = some v ∧ _
  rw [aresults_1 (r := .tmp 6) (by kernel_rfl)]
  simp -implicitDefEqProofs (disch := (try simp only [sl]); try omega) only [aresult, Option.some.injEq, exists_eq_left', sm,Qj,Qi,Qq,QC,Qz,bd,QF,look,aput,QB,Qf,QA,ty,↓reduceIte,Nat.reduceEqDiff,Nat.reduceAdd,Nat.reduceSub,Nat.reduceMul,Int.reduceLT,Int.reduceLE,Int.reduceNeg,Int.reduceToNat,reduceCtorEq,Nat.reduceBEq,Nat.reduceBNe,Qk,Qe,Value.cells,am,mm,keep, f_, fo_, aint, hk, hal, hac, hak, hae, hap, han, hrl', htk', hra, hii]
end Go.Proofs.Ytpiaohajbbdpdaa
