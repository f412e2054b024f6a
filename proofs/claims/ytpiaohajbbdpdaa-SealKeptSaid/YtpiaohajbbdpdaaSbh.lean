/- seal: Hide and Open with a book. -/
import Derived.Test.YtpiaohajbbdpdaaSbt
import Derived.Test.YtpiaohajbbdpdaaSl3
namespace Go.Proofs.Ytpiaohajbbdpdaa
open Go Go.RowKit
--hide
set_option linter.unusedSimpArgs false
set_option linter.unusedVariables false
set_option maxRecDepth 4000
theorem now_start (H : AH) : ∃ E : AH, E.length = 0 ∧ Now E H [] := ⟨[], rfl, fun _ _ h => by simp at h, trivial⟩
set_option maxHeartbeats 4000000 in
theorem bhide_calls (gb : Nat) (k : List UInt8) (e : UInt32) (pl bl : Int) (v : Value) (pg : List UInt8) (H : AH) (hg : H[gb]? = some (.own [.slice none 0 0])) (hk : k.length = 32) (hv : SL H v (pg.map U8)) (hok : okH pl bl pg) :
    ACalls Try.prog 13 #[.pointer (some ⟨gb, 0, none⟩), .agg (k.map U8).toArray, U32 e, .int .i64 pl, .int .i64 bl, v] H fun r H' => (∃ x w sv, r = .tuple #[x, .agg (rc pl e (digest (trn k e bl pg))).toArray, .int .i64 0] ∧ SL H' x ((trn k e bl pg).map U8) ∧ BkS H' gb sv [(w, trn k e bl pg)] ∧ ∀ q o n e, sv = .slice (some ⟨q, o, none⟩) n e → H.length ≤ q) ∧ But gb H H' := by
  have hz32 := zb_length 32
  have hrz := rc_length hz32 0 0
  have hra := rc_cellv
  obtain ⟨hs, hp⟩ := hok
  have hE : slE bl pg = 0 := by rw [slE, if_pos hs]
  have hK : slK k e bl pg = trn k e bl pg := by rw [slK, if_pos hs]
  have hgl := got_lt hg
  obtain ⟨E, hE0, N_⟩ := now_start H
  have fo_ := True.intro
  have f_ := N_.has
  simp only [Has] at f_
  refine acalls_of_body Try.func13 rfl Try.ntmps13 (by simp) ?_
  simp only [argsT, Nat.reduceAdd]
  iterate 1 ((repeat first | refine Qo ?_ | refine Qn ?_); (first | (refine QK (by kernel_rfl) ?_; intro K_ hK_; simp -implicitDefEqProofs (disch := (try simp only [sl]); try omega) only [sm,QJ,Qj,Qi,Qq,QC,bd,look,aput,ty,↓reduceIte,Nat.reduceEqDiff,Nat.reduceAdd,Nat.reduceSub,Nat.reduceMul,Int.reduceLT,Int.reduceLE,Int.reduceNeg,Int.reduceToNat,reduceCtorEq,Nat.reduceBEq,Nat.reduceBNe,Qk,Qe,Value.cells,am,mm,keep, f_, fo_, hk, aint, zR, hrz, hra]; refine hK_ _ _ ?_; clear hK_ K_; repeat first | refine QL ?_ | refine QM ?_)))
  first | refine AWp.snap8 N_ ?_ | refine AWp.snap7 N_ ?_ | refine AWp.snap6 N_ ?_ | refine AWp.snap5 N_ ?_ | refine AWp.snap4 N_ ?_ | refine AWp.snap3 N_ ?_ | refine AWp.snap2 N_ ?_ | refine AWp.snap1 N_ ?_
  clear fo_; have fo_ := f_; clear f_ N_; intro H1 xH1 lH1 N_
  have f_ := N_.has
  simp only [Has] at f_
  (repeat first | refine Qo ?_ | refine Qn ?_); refine QK (by kernel_rfl) ?_; intro K_ hK_; simp -implicitDefEqProofs (disch := (try simp only [sl]); try omega) only [sm,QJ,Qj,Qi,Qq,QC,Qz,bd,QF,look,aput,Qm,QA,Qh,ty,↓reduceIte,Nat.reduceEqDiff,Nat.reduceAdd,Nat.reduceSub,Nat.reduceMul,Int.reduceLT,Int.reduceLE,Int.reduceNeg,Int.reduceToNat,reduceCtorEq,Nat.reduceBEq,Nat.reduceBNe,Qk,Qe,Value.cells,am,mm,keep, f_, fo_, hk, aint, zR, hrz, hra]
  refine ACalls.mono (seal_calls k e bl v pg H1 hk (hv.mono xH1)) ?_
  rintro _ H2 ⟨⟨x, rfl, hx⟩, e2⟩
  rw [hK] at hx
  replace N_ := N_.grow e2
  clear fo_; have fo_ := f_; clear f_
  have f_ := N_.has
  simp only [Has] at f_
  try simp -implicitDefEqProofs (disch := (try simp only [sl]); try omega) only [sm,QJ,Qj,Qi,Qq,QC,Qz,bd,QF,look,aput,Qm,QA,Qh,ty,↓reduceIte,Nat.reduceEqDiff,Nat.reduceAdd,Nat.reduceSub,Nat.reduceMul,Int.reduceLT,Int.reduceLE,Int.reduceNeg,Int.reduceToNat,reduceCtorEq,Nat.reduceBEq,Nat.reduceBNe,Qk,Qe,Value.cells,am,mm,keep, f_, fo_, hk, aint, zR, hrz, hra]
  try (refine hK_ _ _ ?_; clear hK_ K_; repeat first | refine QL ?_ | refine QM ?_)
  (repeat first | refine Qo ?_ | refine Qn ?_); refine QK (by kernel_rfl) ?_; intro K_ hK_; simp -implicitDefEqProofs (disch := (try simp only [sl]); try omega) only [sm,QJ,Qj,Qi,Qq,QC,bd,look,aput,Qm,QI,abin,anil,QG,ty,↓reduceIte,Nat.reduceEqDiff,Nat.reduceAdd,Nat.reduceSub,Nat.reduceMul,Int.reduceLT,Int.reduceLE,Int.reduceNeg,Int.reduceToNat,reduceCtorEq,Nat.reduceBEq,Nat.reduceBNe,Qk,Qe,Value.cells,am,mm,keep, f_, fo_, hk, aint, zR, hrz, hra, hE]
  refine ACalls.mono (isplace_calls pl H2) ?_
  rintro _ _ ⟨rfl, hHH⟩
  rw [hHH]
  clear hHH
  simp -implicitDefEqProofs (disch := (try simp only [sl]); try omega) only [sm,QJ,Qj,Qi,Qq,QC,bd,look,aput,Qm,QI,abin,anil,QG,ty,↓reduceIte,Nat.reduceEqDiff,Nat.reduceAdd,Nat.reduceSub,Nat.reduceMul,Int.reduceLT,Int.reduceLE,Int.reduceNeg,Int.reduceToNat,reduceCtorEq,Nat.reduceBEq,Nat.reduceBNe,Qk,Qe,Value.cells,am,mm,keep, f_, fo_, hk, aint, zR, hrz, hra]
  try (refine hK_ _ _ ?_; clear hK_ K_; repeat first | refine QL ?_ | refine QM ?_)
  try simp -implicitDefEqProofs (disch := (try simp only [sl]); try omega) only [sm,QJ,Qj,Qi,Qq,QC,bd,look,aput,Qm,QI,abin,anil,QG,ty,↓reduceIte,Nat.reduceEqDiff,Nat.reduceAdd,Nat.reduceSub,Nat.reduceMul,Int.reduceLT,Int.reduceLE,Int.reduceNeg,Int.reduceToNat,reduceCtorEq,Nat.reduceBEq,Nat.reduceBNe,Qk,Qe,Value.cells,am,mm,keep, f_, fo_, hk, aint, zR, hrz, hra, decide_eq_true hp]
  try (refine hK_ _ _ ?_; clear hK_ K_; repeat first | refine QL ?_ | refine QM ?_)
  repeat first | refine Qo ?_ | refine Qn ?_
  refine awp_if false rfl (by simp only [aeval_tmp, look, ↓reduceIte, Nat.reduceEqDiff]; try rfl) (fun h => absurd h (by decide)) (fun _ => ?_)
  iterate 1 ((repeat first | refine Qo ?_ | refine Qn ?_); (first | (refine QK (by kernel_rfl) ?_; intro K_ hK_; simp -implicitDefEqProofs (disch := (try simp only [sl]); try omega) only [sm,QJ,Qj,Qi,Qq,QC,bd,look,aput,Qm,ty,↓reduceIte,Nat.reduceEqDiff,Nat.reduceAdd,Nat.reduceSub,Nat.reduceMul,Int.reduceLT,Int.reduceLE,Int.reduceNeg,Int.reduceToNat,reduceCtorEq,Nat.reduceBEq,Nat.reduceBNe,Qk,Qe,Value.cells,am,mm,keep, f_, fo_, hk, aint, zR, hrz, hra]; refine hK_ _ _ ?_; clear hK_ K_; repeat first | refine QL ?_ | refine QM ?_) | (refine awp_skip ?_; repeat first | refine QL ?_ | refine QM ?_)))
  (repeat first | refine Qo ?_ | refine Qn ?_); refine QK (by kernel_rfl) ?_; intro K_ hK_; simp -implicitDefEqProofs (disch := (try simp only [sl]); try omega) only [sm,QJ,Qj,Qi,Qq,QC,bd,look,aput,Qm,ty,↓reduceIte,Nat.reduceEqDiff,Nat.reduceAdd,Nat.reduceSub,Nat.reduceMul,Int.reduceLT,Int.reduceLE,Int.reduceNeg,Int.reduceToNat,reduceCtorEq,Nat.reduceBEq,Nat.reduceBNe,Qk,Qe,Value.cells,am,mm,keep, f_, fo_, hk, aint, zR, hrz, hra]
  have htl : (trn k e bl pg).length = 256 := by rw [trn_length, hs.1]
  have hg2 := e2 _ _ (xH1 _ _ hg)
  have hln := e2.length
  refine ACalls.mono (bdigest_calls gb (.slice none 0 0) [] x (trn k e bl pg) H2 ⟨hg2, OS.nil _ _, fun p hp => by simp at hp⟩ (by decide) hx (by omega) (by omega) (fun p hp => by simp at hp)) ?_
  rintro _ H3 ⟨rfl, ⟨w, sv, hB3, fr3⟩, b3'⟩
  have b3 : But gb H2 H3 := fun p y hp hy => b3' p y hp (fun o n e k => by cases k) hy
  have hx3 : SL H3 x ((trn k e bl pg).map U8) := hx.but (.inr (hx.far (AH.cells_own hg2) (by rw [List.length_map, htl]; decide))) b3
  replace N_ := N_.but b3 (by omega) (by repeat first | exact List.forall_mem_nil _ | refine List.forall_mem_cons.2 ⟨by simp only []; omega, ?_⟩)
  clear fo_; have fo_ := f_; clear f_
  have f_ := N_.has
  simp only [Has] at f_
  have hdl := digest_length (trn k e bl pg)
  have hov := rc_ovr hz32 hdl 0 pl 0 e
  have hrl := rc_length hdl pl e
  have hbd : [Value.int .i64 pl] ++ ([Value.int .u32 (e.toNat : Int)] ++ (digest (trn k e bl pg)).map U8) = rc pl e (digest (trn k e bl pg)) := rfl
  try simp -implicitDefEqProofs (disch := (try simp only [sl]); try omega) only [sm,QJ,Qj,Qi,Qq,QC,bd,look,aput,Qm,ty,↓reduceIte,Nat.reduceEqDiff,Nat.reduceAdd,Nat.reduceSub,Nat.reduceMul,Int.reduceLT,Int.reduceLE,Int.reduceNeg,Int.reduceToNat,reduceCtorEq,Nat.reduceBEq,Nat.reduceBNe,Qk,Qe,Value.cells,am,mm,keep, f_, fo_, hk, aint, zR, hrz, hra, bda, List.length_map, hdl, hbd, hov, hrl]
  try (refine hK_ _ _ ?_; clear hK_ K_; repeat first | refine QL ?_ | refine QM ?_)
  first | refine awp_ret ?_ | skip
  show ∃ v, aresults Try.prog Try.f13 _ _ = some v ∧ _
  rw [aresults_3 (r := .tmp 12) (s := .cell 13 35) (u := .tmp 14) (by kernel_rfl)]
  simp -implicitDefEqProofs (disch := (try simp only [sl]); try omega) only [aresult, Option.some.injEq, exists_eq_left', sm,Qj,Qi,Qq,QC,Qz,bd,QF,look,aput,QB,Qf,QA,ty,↓reduceIte,Nat.reduceEqDiff,Nat.reduceAdd,Nat.reduceSub,Nat.reduceMul,Int.reduceLT,Int.reduceLE,Int.reduceNeg,Int.reduceToNat,reduceCtorEq,Nat.reduceBEq,Nat.reduceBNe,Qk,Qe,Value.cells,am,mm,keep, f_, fo_, hk, aint, zR, hrz, hra]
  have hz : H3.cells (H.length + 1) = some (rc 0 0 (zb 32)) := f_.1.2.2
  have b4 : But (H.length + 1) H3 (H3.set (H.length + 1) (.own (rc pl e (digest (trn k e bl pg))))) := set_other H3 _ _
  obtain ⟨q1, q2, q3⟩ := hB3
  simp only [List.nil_append] at q2 q3
  refine ⟨⟨x, w, sv, rfl, hx3.but (.inr (hx3.far hz (by rw [hrz, List.length_map, htl]; decide))) b4, ⟨b4 _ _ (by omega) q1, q2.butn (fun o n e k => by have := fr3 _ _ _ _ k; omega) b4, fun p hp => ?_⟩, fun q o n e k => by have := fr3 _ _ _ _ k; omega⟩, fun p y hp hy => ?_⟩
  · have h1 := q3 p hp
    simp only [List.mem_singleton] at hp
    subst hp
    exact h1.but (.inr (h1.far hz (by rw [hrz, List.length_map, htl]; decide))) b4
  · exact b4 _ _ (by have := got_lt hy; omega) (b3 _ _ hp (e2 _ _ (xH1 _ _ hy)))
theorem BkS.mono {H H' : AH} {gb : Nat} {sv : Value} {ps : List (Value × List UInt8)} (h : BkS H gb sv ps) (e : Ext H H') : BkS H' gb sv ps :=
  ⟨e _ _ h.1, h.2.1.mono e, fun p hp => (h.2.2 p hp).mono e⟩
set_option maxHeartbeats 4000000 in
theorem bopen_calls (gb : Nat) (sv : Value) (w : Value) (T : List UInt8) (k : List UInt8) (pl : Int) (e : UInt32) (d : List UInt8) (bl : Int) (v : Value) (pg : List UInt8) (H : AH) (hB : BkS H gb sv [(w, T)]) (hT : 2 < T.length) (hk : k.length = 32) (hd : d.length = 32) (hv : SL H v (pg.map U8)) (hs : okS bl pg) :
    ACalls Try.prog 17 #[.pointer (some ⟨gb, 0, none⟩), .agg (k.map U8).toArray, .agg (rc pl e d).toArray, .int .i64 bl, v] H fun r H' => (∃ x w' sv', r = .tuple #[x, .int .i64 (opE d bl pg)] ∧ SL H' x ((opK k e d bl pg).map U8) ∧ BkS H' gb sv' [(w, T), (w', pg)]) ∧ But2 gb sv H H' := by
  have lv := alen_sl (P := Try.prog) (T := 26) (by simp only [ty]) hv
  rw [List.length_map] at lv
  have hrl := rc_length hd pl e
  have hra := rc_cellv
  have hre := rc_e pl e d
  have hrd := rc_d hd pl e
  have hgl := got_lt hB.1
  obtain ⟨h1, h2⟩ := hs
  have h2 : ¬ bl < 0 := by omega
  have hb : ((pg.length : Int) != 256) = false := by rw [h1]; rfl
  have fo_ : True := trivial
  have N_ := Now.start H
  have f_ := N_.has
  simp only [Has] at f_
  refine acalls_of_body Try.func17 rfl Try.ntmps17 (by simp) ?_
  simp only [argsT, Nat.reduceAdd]
  iterate 1 ((repeat first | refine Qo ?_ | refine Qn ?_); (first | (refine QK (by kernel_rfl) ?_; intro K_ hK_; simp -implicitDefEqProofs (disch := (try simp only [sl]); try omega) only [sm,QJ,Qj,Qi,Qq,QC,bd,look,aput,ty,↓reduceIte,Nat.reduceEqDiff,Nat.reduceAdd,Nat.reduceSub,Nat.reduceMul,Int.reduceLT,Int.reduceLE,Int.reduceNeg,Int.reduceToNat,reduceCtorEq,Nat.reduceBEq,Nat.reduceBNe,Qk,Qe,Value.cells,am,mm,keep, f_, fo_, hk, aint, lv, hrl, hra, hre, hrd]; refine hK_ _ _ ?_; clear hK_ K_; repeat first | refine QL ?_ | refine QM ?_)))
  first | refine AWp.snap8 N_ ?_ | refine AWp.snap7 N_ ?_ | refine AWp.snap6 N_ ?_ | refine AWp.snap5 N_ ?_ | refine AWp.snap4 N_ ?_ | refine AWp.snap3 N_ ?_ | refine AWp.snap2 N_ ?_ | refine AWp.snap1 N_ ?_
  clear fo_; have fo_ := f_; clear f_ N_; intro H1 xH1 lH1 N_
  have f_ := N_.has
  simp only [Has] at f_
  have f1 := f_
  iterate 1 ((repeat first | refine Qo ?_ | refine Qn ?_); (first | (refine QK (by kernel_rfl) ?_; intro K_ hK_; simp -implicitDefEqProofs (disch := (try simp only [sl]); try omega) only [sm,QJ,Qj,Qi,Qq,QC,bd,look,aput,QI,abin,anil,ty,↓reduceIte,Nat.reduceEqDiff,Nat.reduceAdd,Nat.reduceSub,Nat.reduceMul,Int.reduceLT,Int.reduceLE,Int.reduceNeg,Int.reduceToNat,reduceCtorEq,Nat.reduceBEq,Nat.reduceBNe,Qk,Qe,Value.cells,am,mm,keep, f_, fo_, hk, aint, lv, hrl, hra, hre, hrd, hb, h2]; refine hK_ _ _ ?_; clear hK_ K_; repeat first | refine QL ?_ | refine QM ?_)))
  repeat first | refine Qo ?_ | refine Qn ?_
  refine awp_if false rfl (by simp only [aeval_tmp, look, ↓reduceIte, Nat.reduceEqDiff]; try rfl) (fun h => absurd h (by decide)) (fun _ => ?_)
  iterate 1 ((repeat first | refine Qo ?_ | refine Qn ?_); (first | (refine awp_region_drawK (id := 3) [(0, []), (1, []), (3, []), (4, []), (2, [4]), (5, [])] mixed (by kernel_rfl) ?_; intro K_ hK_; simp -implicitDefEqProofs (disch := (try simp only [sl]); try omega) only [sm,aSel,Qu,Qv,Qw,Qx,Qy,Qj,Qi,Qq,QC,Qz,bd,QF,look,aput,Qm,QI,abin,anil,Qc,QA,ty,↓reduceIte,Nat.reduceEqDiff,Nat.reduceAdd,Nat.reduceSub,Nat.reduceMul,Int.reduceLT,Int.reduceLE,Int.reduceNeg,Int.reduceToNat,reduceCtorEq,Nat.reduceBEq,Nat.reduceBNe,Qk,Qe,Value.cells,am,mm,keep, f_, fo_, hk, aint, lv, hrl, hra, hre, hrd]; refine hK_ _ _ ?_; clear hK_ K_; repeat first | refine QL ?_ | refine QM ?_) | (refine awp_skip ?_; repeat first | refine QL ?_ | refine QM ?_)))
  (repeat first | refine Qo ?_ | refine Qn ?_); refine awp_region_drawK (id := 3) [(0, []), (1, []), (3, []), (4, []), (2, [4]), (5, [])] mixed (by kernel_rfl) ?_; intro K_ hK_; simp -implicitDefEqProofs (disch := (try simp only [sl]); try omega) only [sm,aSel,Qu,Qv,Qw,Qx,Qy,Qj,Qi,Qq,QC,Qz,bd,QF,look,aput,Qm,QI,abin,anil,Qc,QA,ty,↓reduceIte,Nat.reduceEqDiff,Nat.reduceAdd,Nat.reduceSub,Nat.reduceMul,Int.reduceLT,Int.reduceLE,Int.reduceNeg,Int.reduceToNat,reduceCtorEq,Nat.reduceBEq,Nat.reduceBNe,Qk,Qe,Value.cells,am,mm,keep, f_, fo_, hk, aint, lv, hrl, hra, hre, hrd]
  have hB1 := hB.mono xH1
  have hgl1 := xH1.length
  refine ACalls.mono (bdigest_calls gb sv [(w, T)] v pg H1 hB1 (by simp) (hv.mono xH1) (by omega) (by omega) (fun p hp => by simp only [List.mem_singleton] at hp; subst hp; exact hT)) ?_
  rintro _ H2 ⟨rfl, ⟨w', sv', hB2, fr2⟩, b2⟩
  have hsl : ∀ q, H.length ≤ q → ∀ o n e, sv ≠ .slice (some ⟨q, o, none⟩) n e := fun q hq o n e k => by
    have := got_lt (hB.2.1.cells k).2.1
    omega
  have q0 := b2 _ _ (by omega) (hsl H.length (by omega)) f1.2.1.2.1
  have q1 := b2 _ _ (by omega) (hsl (H.length + 1) (by omega)) f1.1.2.1
  have c0 := AH.cells_own q0
  have c1 := AH.cells_own q1
  have g0 := got_lt q0
  have g1 := got_lt q1
  have hv2 : SL H2 v (pg.map U8) := (hv.mono xH1).but2 b2 ((hv.far (AH.cells_own hB.1) (by simp only [List.length_map, List.length_singleton]; omega))) (fun q o n e o' n' e' hs => hv.far (hB.2.1.cells hs).1 (by simp only [List.length_map, List.length_cons, List.length_nil]; omega) o' n' e')
  have hae := aeq32 _ _ (digest_length pg) hd
  have hok : okS bl pg := ⟨h1, by omega⟩
  clear f_ N_ fo_
  have fin : ∀ H3, Ext H2 H3 → But2 gb sv H H3 := fun H3 e3 p y hp hs hy => e3 _ _ (b2 _ _ hp hs (xH1 _ _ hy))
  by_cases heq : digest pg = d
  · have hd1 : decide (digest pg = d) = true := decide_eq_true heq
    try simp -implicitDefEqProofs (disch := (try simp only [sl]); try omega) only [sm,aSel,Qu,Qv,Qw,Qx,Qy,Qj,Qi,Qq,QC,Qz,bd,QF,look,aput,Qm,QI,abin,anil,Qc,QA,ty,↓reduceIte,Nat.reduceEqDiff,Nat.reduceAdd,Nat.reduceSub,Nat.reduceMul,Int.reduceLT,Int.reduceLE,Int.reduceNeg,Int.reduceToNat,reduceCtorEq,Nat.reduceBEq,Nat.reduceBNe,Qk,Qe,Value.cells,am,mm,keep, f1, q0, q1, c0, c1, g0, g1, hk, aint, lv, hrl, hra, hre, hrd, hae, hd1, Bool.not_true]
    try (refine hK_ _ _ ?_; clear hK_ K_; repeat first | refine QL ?_ | refine QM ?_)
    repeat first | refine Qo ?_ | refine Qn ?_
    refine awp_if false rfl (by simp only [aeval_tmp, look, ↓reduceIte, Nat.reduceEqDiff]; try rfl) (fun h => absurd h (by decide)) (fun _ => ?_)
    iterate 1 ((repeat first | refine Qo ?_ | refine Qn ?_); (first | (refine QK (by kernel_rfl) ?_; intro K_ hK_; simp -implicitDefEqProofs (disch := (try simp only [sl]); try omega) only [sm,QJ,Qj,Qi,Qq,QC,Qz,bd,QF,look,aput,Qm,Qc,QA,Qh,ty,↓reduceIte,Nat.reduceEqDiff,Nat.reduceAdd,Nat.reduceSub,Nat.reduceMul,Int.reduceLT,Int.reduceLE,Int.reduceNeg,Int.reduceToNat,reduceCtorEq,Nat.reduceBEq,Nat.reduceBNe,Qk,Qe,Value.cells,am,mm,keep, f1, q0, q1, c0, c1, g0, g1, hk, aint, lv, hrl, hra, hre, hrd]; refine hK_ _ _ ?_; clear hK_ K_; repeat first | refine QL ?_ | refine QM ?_) | (refine awp_skip ?_; repeat first | refine QL ?_ | refine QM ?_)))
    (repeat first | refine Qo ?_ | refine Qn ?_); refine QK (by kernel_rfl) ?_; intro K_ hK_; simp -implicitDefEqProofs (disch := (try simp only [sl]); try omega) only [sm,QJ,Qj,Qi,Qq,QC,Qz,bd,QF,look,aput,Qm,Qc,QA,Qh,ty,↓reduceIte,Nat.reduceEqDiff,Nat.reduceAdd,Nat.reduceSub,Nat.reduceMul,Int.reduceLT,Int.reduceLE,Int.reduceNeg,Int.reduceToNat,reduceCtorEq,Nat.reduceBEq,Nat.reduceBNe,Qk,Qe,Value.cells,am,mm,keep, f1, q0, q1, c0, c1, g0, g1, hk, aint, lv, hrl, hra, hre, hrd]
    refine ACalls.mono (seal_calls k e bl v pg H2 hk hv2) ?_
    rintro _ H3 ⟨⟨x, rfl, hx⟩, e3⟩
    try simp -implicitDefEqProofs (disch := (try simp only [sl]); try omega) only [sm,QJ,Qj,Qi,Qq,QC,Qz,bd,QF,look,aput,Qm,Qc,QA,Qh,ty,↓reduceIte,Nat.reduceEqDiff,Nat.reduceAdd,Nat.reduceSub,Nat.reduceMul,Int.reduceLT,Int.reduceLE,Int.reduceNeg,Int.reduceToNat,reduceCtorEq,Nat.reduceBEq,Nat.reduceBNe,Qk,Qe,Value.cells,am,mm,keep, f1, q0, q1, c0, c1, g0, g1, hk, aint, lv, hrl, hra, hre, hrd]
    try (refine hK_ _ _ ?_; clear hK_ K_; repeat first | refine QL ?_ | refine QM ?_)
    first | refine awp_ret ?_ | skip
    show ∃ v, aresults Try.prog Try.f17 _ _ = some v ∧ _
    rw [aresults_2 (r := .tmp 10) (s := .tmp 11) (by kernel_rfl)]
    simp -implicitDefEqProofs (disch := (try simp only [sl]); try omega) only [aresult, Option.some.injEq, exists_eq_left', sm,Qj,Qi,Qq,QC,Qz,bd,QF,look,aput,QB,Qf,QA,ty,↓reduceIte,Nat.reduceEqDiff,Nat.reduceAdd,Nat.reduceSub,Nat.reduceMul,Int.reduceLT,Int.reduceLE,Int.reduceNeg,Int.reduceToNat,reduceCtorEq,Nat.reduceBEq,Nat.reduceBNe,Qk,Qe,Value.cells,am,mm,keep, f1, q0, q1, c0, c1, g0, g1, hk, aint, lv, hrl, hra, hre, hrd]
    rw [slE, if_pos hok, opE, if_pos hok, if_pos heq, opK, if_pos ⟨hok, heq⟩]
    rw [slK, if_pos hok] at hx
    exact ⟨⟨x, w', sv', rfl, hx, hB2.mono e3⟩, fin _ e3⟩
  · have hd1 : decide (digest pg = d) = false := decide_eq_false heq
    try simp -implicitDefEqProofs (disch := (try simp only [sl]); try omega) only [sm,aSel,Qu,Qv,Qw,Qx,Qy,Qj,Qi,Qq,QC,Qz,bd,QF,look,aput,Qm,QI,abin,anil,Qc,QA,ty,↓reduceIte,Nat.reduceEqDiff,Nat.reduceAdd,Nat.reduceSub,Nat.reduceMul,Int.reduceLT,Int.reduceLE,Int.reduceNeg,Int.reduceToNat,reduceCtorEq,Nat.reduceBEq,Nat.reduceBNe,Qk,Qe,Value.cells,am,mm,keep, f1, q0, q1, c0, c1, g0, g1, hk, aint, lv, hrl, hra, hre, hrd, hae, hd1, Bool.not_false]
    try (refine hK_ _ _ ?_; clear hK_ K_; repeat first | refine QL ?_ | refine QM ?_)
    repeat first | refine Qo ?_ | refine Qn ?_
    refine awp_if true rfl (by simp only [aeval_tmp, look, ↓reduceIte, Nat.reduceEqDiff]; try rfl) (fun _ => ?_) (fun h => absurd h (by decide))
    iterate 1 ((repeat first | refine Qo ?_ | refine Qn ?_); (first | (refine QK (by kernel_rfl) ?_; intro K_ hK_; simp -implicitDefEqProofs (disch := (try simp only [sl]); try omega) only [sm,QJ,Qj,Qi,Qq,QC,bd,look,aput,ty,↓reduceIte,Nat.reduceEqDiff,Nat.reduceAdd,Nat.reduceSub,Nat.reduceMul,Int.reduceLT,Int.reduceLE,Int.reduceNeg,Int.reduceToNat,reduceCtorEq,Nat.reduceBEq,Nat.reduceBNe,Qk,Qe,Value.cells,am,mm,keep, f1, q0, q1, c0, c1, g0, g1, hk, aint, lv, hrl, hra, hre, hrd]; refine hK_ _ _ ?_; clear hK_ K_; repeat first | refine QL ?_ | refine QM ?_)))
    first | refine awp_ret ?_ | skip
    show ∃ v, aresults Try.prog Try.f17 _ _ = some v ∧ _
    rw [aresults_2 (r := .tmp 10) (s := .tmp 11) (by kernel_rfl)]
    simp -implicitDefEqProofs (disch := (try simp only [sl]); try omega) only [aresult, Option.some.injEq, exists_eq_left', sm,Qj,Qi,Qq,QC,Qz,bd,QF,look,aput,QB,Qf,QA,ty,↓reduceIte,Nat.reduceEqDiff,Nat.reduceAdd,Nat.reduceSub,Nat.reduceMul,Int.reduceLT,Int.reduceLE,Int.reduceNeg,Int.reduceToNat,reduceCtorEq,Nat.reduceBEq,Nat.reduceBNe,Qk,Qe,Value.cells,am,mm,keep, f1, q0, q1, c0, c1, g0, g1, hk, aint, lv, hrl, hra, hre, hrd]
    rw [opE, if_pos hok, if_neg heq, opK, if_neg (fun h => heq h.2)]
    exact ⟨⟨_, w', sv', rfl, .inl ⟨rfl, rfl⟩, hB2⟩, fin _ (Ext.refl _)⟩
end Go.Proofs.Ytpiaohajbbdpdaa
