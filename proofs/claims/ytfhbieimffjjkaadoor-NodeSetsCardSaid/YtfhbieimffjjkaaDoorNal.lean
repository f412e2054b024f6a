/- What each statement of node asks besides: same, alive; references told QA. -/
import Derived.Test.YtfhbieimffjjkaaDoorNda
namespace Go.Proofs.YtfhbieimffjjkaaDoor
open Go Go.RowKit
--hide
set_option linter.unusedSimpArgs false
set_option linter.unusedVariables false
set_option maxRecDepth 4000
theorem kin_u32 {d t : Nat} (e : UInt32) (h : Tryd.prog.underlying t = some (.int .u32)) : KIn Tryd.prog (d + 1) t [U32 e] := kin_int (k := .u32) (n := (e.toNat : Int)) h (wf32 e)
theorem kin_r {T : Nat} {x : Rf} (hu : Tryd.prog.underlying T = Tryd.prog.underlying 79) (hc : Tryd.prog.cellsOf T = 34) (hx : rwf x) : KIn Tryd.prog 8 T (rcx x) := by
  obtain ⟨p, e, d⟩ := x
  obtain ⟨hd, h0, h1⟩ := hx
  show KIn Tryd.prog 8 T (rc p e d)
  have hu : Tryd.prog.underlying T = _ := hu.trans (show Tryd.prog.underlying 79 = some (.struct #[{ name := "Place", type := 3, offset := 0, embedded := false, tag := "", pkgPath := "", byteOffset := 0 }, { name := "Epoch", type := 52, offset := 1, embedded := false, tag := "", pkgPath := "", byteOffset := 8 }, { name := "Digest", type := 53, offset := 2, embedded := false, tag := "", pkgPath := "", byteOffset := 12 }]) by kernel_rfl)
  have c1 : Tryd.prog.cellsOf 3 = 1 := by kernel_rfl
  have c2 : Tryd.prog.cellsOf 52 = 1 := by kernel_rfl
  have c3 : Tryd.prog.cellsOf 53 = 32 := by kernel_rfl
  have d0 : ((rc p e d).drop 0).take 1 = [.int .i64 p] := rfl
  have d1 : ((rc p e d).drop 1).take 1 = [U32 e] := rfl
  have d2 := rc_d hd p e
  unfold KIn
  simp only [hu, hc, rc_length hd, true_and]
  refine ⟨by kernel_rfl, ?_, fun f hf => ?_⟩
  · simp only [List.map_cons, List.map_nil, c1, c2, c3, d0, d1, d2, List.flatten_cons, List.flatten_nil, List.append_nil]; rfl
  · simp only [List.mem_cons, List.not_mem_nil, or_false] at hf
    rcases hf with rfl | rfl | rfl
    · simp only [c1, d0]; exact kin_int (d := 6) (by kernel_rfl) (wfi _ h0 h1)
    · simp only [c2, d1]; exact kin_u32 (d := 6) e (by kernel_rfl)
    · simp only [c3, d2]; exact kin_bytes (d := 5) (n := 32) (e := 5) (by kernel_rfl) (by kernel_rfl) (by kernel_rfl) c3 _ hd
theorem aeqR {x : Rf} (hx : rwf x) : aeqAgg Tryd.prog 79 (rcx x).toArray (rcx x).toArray = some true :=
  aeq_same (kin_r rfl (by kernel_rfl) hx) (by kernel_rfl) (by kernel_rfl) (by kernel_rfl)
theorem aeqS {x : Rf} (hx : rwf x) : aeqAgg Tryd.prog 82 (rcx x).toArray (rcx x).toArray = some true :=
  aeq_same (kin_r (by kernel_rfl) (by kernel_rfl) hx) (by kernel_rfl) (by kernel_rfl) (by kernel_rfl)
set_option maxHeartbeats 8000000 in
theorem nsame_calls (v w : Value) (l : List Rf) (H : AH) (hv : SLn H v l.length (flR l)) (hw : SLn H w l.length (flR l)) (hl : ∀ x ∈ l, rwf x) (hm : l.length ≤ 1000) :
    ACalls Tryd.prog 51 #[v, w] H fun r H' => r = .bool true ∧ H' = H := by
  have lv := alen_sln (P := Tryd.prog) (T := 70) (by simp only [ty]) hv
  have lw := alen_sln (P := Tryd.prog) (T := 68) (by simp only [ty]) hw
  have hnn : ∀ n : Int, (n != n) = false := fun n => by simp
  have hrl := flR_hl hl
  refine acalls_of_body Tryd.func51 rfl Tryd.ntmps51 (by simp) ?_
  simp only [argsT, Nat.reduceAdd]
  iterate 2 ((repeat first | refine Qo ?_ | refine Qn ?_); (first | (refine QK (by kernel_rfl) ?_; intro K_ hK_; simp -implicitDefEqProofs (disch := (try simp only [sl]); try omega) only [sm,QJ,Qj,Qi,Qq,QC,bd,look,aput,QI,abin,anil,ty,↓reduceIte,Nat.reduceEqDiff,Nat.reduceAdd,Nat.reduceSub,Nat.reduceMul,Int.reduceLT,Int.reduceLE,Int.reduceNeg,Int.reduceToNat,reduceCtorEq,Nat.reduceBEq,Nat.reduceBNe,Qk,Qe,Value.cells,am,mm,keep, aint, lv, lw, hnn]; refine hK_ _ _ ?_; clear hK_ K_; repeat first | refine QL ?_ | refine QM ?_)))
  repeat first | refine Qo ?_ | refine Qn ?_
  refine awp_if false rfl (by simp only [aeval_tmp, look, ↓reduceIte, Nat.reduceEqDiff]; try rfl) (fun h => absurd h (by decide)) (fun _ => ?_)
  iterate 2 ((repeat first | refine Qo ?_ | refine Qn ?_); (first | (refine QK (by kernel_rfl) ?_; intro K_ hK_; simp -implicitDefEqProofs (disch := (try simp only [sl]); try omega) only [sm,QJ,Qj,Qi,Qq,QC,bd,look,aput,ty,↓reduceIte,Nat.reduceEqDiff,Nat.reduceAdd,Nat.reduceSub,Nat.reduceMul,Int.reduceLT,Int.reduceLE,Int.reduceNeg,Int.reduceToNat,reduceCtorEq,Nat.reduceBEq,Nat.reduceBNe,Qk,Qe,Value.cells,am,mm,keep, aint, lv, lw, hnn]; refine hK_ _ _ ?_; clear hK_ K_; repeat first | refine QL ?_ | refine QM ?_) | (refine awp_skip ?_; repeat first | refine QL ?_ | refine QM ?_)))
  repeat first | refine Qo ?_ | refine Qn ?_
  refine awp_forK [0, 1, 12] (fun i : Nat => [(13, I64 i)]) (fun i : Nat => H) (fun i : Nat => i ≤ l.length) (fun i : Nat => l.length - i) (0) (Nat.zero_le _) (by repeat first | exact Forgets.nil | refine Forgets.cons (by first | (simp only [look, ↓reduceIte, Nat.reduceEqDiff]; done) | (simp only [look, ↓reduceIte, Nat.reduceEqDiff]; rfl) | simp [look]) ?_) rfl ?_
  intro i hi
  by_cases hlt : i < l.length
  · obtain ⟨g, o, e, cs, hve, hcs, hcc, hlen⟩ := hv.at hrl i hlt
    obtain ⟨g', o', e', cs', hwe, hcs', hcc', hlen'⟩ := hw.at hrl i hlt
    cases hve
    cases hwe
    have hx := hl _ (List.getElem_mem hlt)
    generalize l[i] = x at *
    have xl := rcx_length hx
    have xc := rcx_cellv x
    have xq := aeqR hx
    have hii : IntKind.i64.wrap ((i : Int) + 1) = (i : Int) + 1 := wi64 _ (by omega) (by omega)
    iterate 1 ((repeat first | refine Qo ?_ | refine Qn ?_); (first | (refine QK (by kernel_rfl) ?_; intro K_ hK_; simp -implicitDefEqProofs (disch := (try simp only [sl]); try omega) only [sm,QJ,Qj,Qi,Qq,QC,bd,look,aput,QI,abin,anil,ty,↓reduceIte,Nat.reduceEqDiff,Nat.reduceAdd,Nat.reduceSub,Nat.reduceMul,Int.reduceLT,Int.reduceLE,Int.reduceNeg,Int.reduceToNat,reduceCtorEq,Nat.reduceBEq,Nat.reduceBNe,Qk,Qe,Value.cells,am,mm,keep, aint, lv, lw, hnn, hlt]; refine hK_ _ _ ?_; clear hK_ K_; repeat first | refine QL ?_ | refine QM ?_)))
    repeat first | refine Qo ?_ | refine Qn ?_
    refine awp_if true rfl (by simp only [aeval_tmp, look, ↓reduceIte, Nat.reduceEqDiff]; try rfl) (fun _ => ?_) (fun h => absurd h (by decide))
    iterate 3 ((repeat first | refine Qo ?_ | refine Qn ?_); (first | ((first | refine QK (by kernel_rfl) ?_ | refine awp_region_drawK (id := 6) [(0, []), (1, []), (2, []), (3, []), (4, []), (5, []), (6, []), (7, []), (8, [])] mixed (by kernel_rfl) ?_); intro K_ hK_; simp -implicitDefEqProofs (disch := (try simp only [sl]); try omega) only [sm,QJ,aSel,Qu,Qv,Qw,Qx,Qy,Qj,Qi,Qq,QC,Qz,bd,QF,look,aput,QI,abin,anil,Qb,QA,ty,↓reduceIte,Nat.reduceEqDiff,Nat.reduceAdd,Nat.reduceSub,Nat.reduceMul,Int.reduceLT,Int.reduceLE,Int.reduceNeg,Int.reduceToNat,reduceCtorEq,Nat.reduceBEq,Nat.reduceBNe,Qk,Qe,Value.cells,am,mm,keep, aint, lv, lw, hnn, hlt, hcs, hcc, hlen, hcs', hcc', hlen', xl, xc, xq, Bool.not_true]; refine hK_ _ _ ?_; clear hK_ K_; repeat first | refine QL ?_ | refine QM ?_) | (refine awp_skip ?_; repeat first | refine QL ?_ | refine QM ?_)))
    repeat first | refine Qo ?_ | refine Qn ?_
    refine awp_if false rfl (by simp only [aeval_tmp, look, ↓reduceIte, Nat.reduceEqDiff]; try rfl) (fun h => absurd h (by decide)) (fun _ => ?_)
    iterate 2 ((repeat first | refine Qo ?_ | refine Qn ?_); (first | (refine QK (by kernel_rfl) ?_; intro K_ hK_; simp -implicitDefEqProofs (disch := (try simp only [sl]); try omega) only [sm,QJ,Qj,Qi,Qq,QC,bd,look,aput,QI,abin,anil,ty,↓reduceIte,Nat.reduceEqDiff,Nat.reduceAdd,Nat.reduceSub,Nat.reduceMul,Int.reduceLT,Int.reduceLE,Int.reduceNeg,Int.reduceToNat,reduceCtorEq,Nat.reduceBEq,Nat.reduceBNe,Qk,Qe,Value.cells,am,mm,keep, aint, lv, lw, hnn, hii]; refine hK_ _ _ ?_; clear hK_ K_; repeat first | refine QL ?_ | refine QM ?_) | (refine awp_skip ?_; repeat first | refine QL ?_ | refine QM ?_)))
    refine ⟨i + 1, by omega, (by repeat first | exact Forgets.nil | refine Forgets.cons (by first | (simp only [look, ↓reduceIte, Nat.reduceEqDiff]; done) | (simp only [look, ↓reduceIte, Nat.reduceEqDiff]; rfl) | simp [look, hii]) ?_), ?_⟩
    first | omega | exact ⟨rfl, by omega⟩ | exact ⟨rfl, by simp only []; omega⟩ | (simp only []; omega)
  obtain rfl : i = l.length := by omega
  iterate 1 ((repeat first | refine Qo ?_ | refine Qn ?_); (first | (refine QK (by kernel_rfl) ?_; intro K_ hK_; simp -implicitDefEqProofs (disch := (try simp only [sl]); try omega) only [sm,QJ,Qj,Qi,Qq,QC,bd,look,aput,QI,abin,anil,ty,↓reduceIte,Nat.reduceEqDiff,Nat.reduceAdd,Nat.reduceSub,Nat.reduceMul,Int.reduceLT,Int.reduceLE,Int.reduceNeg,Int.reduceToNat,reduceCtorEq,Nat.reduceBEq,Nat.reduceBNe,Qk,Qe,Value.cells,am,mm,keep, aint, lv, lw, hnn, hlt]; refine hK_ _ _ ?_; clear hK_ K_; repeat first | refine QL ?_ | refine QM ?_)))
  repeat first | refine Qo ?_ | refine Qn ?_
  refine awp_if false rfl (by simp only [aeval_tmp, look, ↓reduceIte, Nat.reduceEqDiff]; try rfl) (fun h => absurd h (by decide)) (fun _ => ?_)
  iterate 2 ((repeat first | refine Qo ?_ | refine Qn ?_); (first | (refine QK (by kernel_rfl) ?_; intro K_ hK_; simp -implicitDefEqProofs (disch := (try simp only [sl]); try omega) only [sm,QJ,Qj,Qi,Qq,QC,bd,look,aput,ty,↓reduceIte,Nat.reduceEqDiff,Nat.reduceAdd,Nat.reduceSub,Nat.reduceMul,Int.reduceLT,Int.reduceLE,Int.reduceNeg,Int.reduceToNat,reduceCtorEq,Nat.reduceBEq,Nat.reduceBNe,Qk,Qe,Value.cells,am,mm,keep, aint, lv, lw, hnn]; refine hK_ _ _ ?_; clear hK_ K_; repeat first | refine QL ?_ | refine QM ?_) | (refine awp_exit ?_; (repeat first | refine aThen_exit ?_ | refine aIn_out rfl ?_); refine aIn_here ?_; repeat first | refine QL ?_ | refine QM ?_)))
  first | refine awp_ret ?_ | skip
  show ∃ v, aresults Tryd.prog Tryd.f51 _ _ = some v ∧ _
  rw [aresults_1 (r := .tmp 4) (by kernel_rfl)]
  simp -implicitDefEqProofs (disch := (try simp only [sl]); try omega) only [aresult, Option.some.injEq, exists_eq_left', sm,Qj,Qi,Qq,QC,Qz,bd,QF,look,aput,QB,Qf,QA,ty,↓reduceIte,Nat.reduceEqDiff,Nat.reduceAdd,Nat.reduceSub,Nat.reduceMul,Int.reduceLT,Int.reduceLE,Int.reduceNeg,Int.reduceToNat,reduceCtorEq,Nat.reduceBEq,Nat.reduceBNe,Qk,Qe,Value.cells,am,mm,keep, aint, lv, lw, hnn]
def rA : Rf := (0, 5, zb 32)
def rB : Rf := (1, 0, zb 32)
def l2 : List Rf := [rA, rB]
theorem l2_wf : ∀ x ∈ l2, rwf x := fun x hx => by
  simp only [l2, List.mem_cons, List.not_mem_nil, or_false] at hx
  rcases hx with rfl | rfl
  · exact ⟨zb_length 32, by decide, by decide⟩
  · exact ⟨zb_length 32, by decide, by decide⟩
theorem l2_ok : okL l2 := ⟨by decide, fun x hx => by
  simp only [l2, List.mem_cons, List.not_mem_nil, or_false] at hx
  rcases hx with rfl | rfl
  · exact .inl rfl
  · exact .inr rfl⟩
theorem ps_zero : psE (zb 256) 1 = 9 := by
  have hn : ¬ okG (zb 256) := fun h => by have := h.2.1.1; exact absurd this (by decide)
  have he : alE (zb 256) = 9 := by rw [alE, if_pos (zb_length 256), if_neg hn]
  rw [psE, if_neg (by decide), he, if_neg (by decide)]
set_option maxHeartbeats 8000000 in
theorem nalive_calls (H : AH) : ACalls Tryd.prog 46 #[] H fun w H' => w = .bool true ∧ Ext H H' := by
  have hA : Value.int .i64 0 :: Value.int .u32 5 :: List.replicate 32 (Value.int .u8 0) = rcx rA := rfl
  have hB : Value.int .i64 1 :: Value.int .u32 0 :: List.replicate 32 (Value.int .u8 0) = rcx rB := rfl
  simp only [List.replicate] at hA hB
  have hS : rcx rA ++ rcx rB = flR l2 := rfl
  have wl := l2_wf
  have kl := l2_ok
  have hlen : l2.length = 2 := rfl
  have ha : (rcx rA).length = 34 := rcx_length (l2_wf _ (by simp [l2]))
  have hb : (rcx rB).length = 34 := rcx_length (l2_wf _ (by simp [l2]))
  have hx : rwf rB := l2_wf _ (by simp [l2])
  obtain ⟨hG, hAl⟩ := okG_pgB wl kl
  have hE : ndE l2 = 0 := by rw [ndE, if_pos kl]
  have hK : ndK l2 = pgB l2 := by rw [ndK, if_pos kl]
  have hpl := pgB_length wl (by decide)
  have hp0 : (pgB l2).getD 0 0 = 2 := rfl
  have hgE : gtE (pgB l2) 1 = 0 := by rw [gtE, alE, if_pos hpl, if_pos hG, if_pos rfl, hAl, if_pos ⟨by decide, by rw [hlen]; decide⟩]
  have hgR : gtR (pgB l2) 1 = rB := by rw [gtR, if_pos hgE, hAl]; rfl
  have hz := ps_zero
  have hB0 : (rcx rB)[0]? = some (.int .i64 1) := rfl
  generalize pgB l2 = P at *
  generalize l2 = L at *
  generalize rB = B at *
  generalize rA = A at *
  have hba := bda
  have hB0 : (rcx B)[0]? = some (.int .i64 1) := hB0
  have hii : ∀ n : Int, (n == n) = true := fun n => by simp
  have zl := rcx_length rz_wf
  have hra := rcx_cellv
  have zRx : [Value.int .i64 0, Value.int .u32 0, Value.int .u8 0, Value.int .u8 0, Value.int .u8 0, Value.int .u8 0, Value.int .u8 0, Value.int .u8 0, Value.int .u8 0, Value.int .u8 0, Value.int .u8 0, Value.int .u8 0, Value.int .u8 0, Value.int .u8 0, Value.int .u8 0, Value.int .u8 0, Value.int .u8 0, Value.int .u8 0, Value.int .u8 0, Value.int .u8 0, Value.int .u8 0, Value.int .u8 0, Value.int .u8 0, Value.int .u8 0, Value.int .u8 0, Value.int .u8 0, Value.int .u8 0, Value.int .u8 0, Value.int .u8 0, Value.int .u8 0, Value.int .u8 0, Value.int .u8 0, Value.int .u8 0, Value.int .u8 0] = rcx rz := rfl
  have xt := rcx_take hx
  have xo := rcx_ovr rz_wf hx
  have fo_ : True := trivial
  have N_ := Now.start H
  have f_ := N_.has
  simp only [Has] at f_
  refine acalls_of_body Tryd.func46 rfl Tryd.ntmps46 (by simp) ?_
  simp only [argsT, Nat.reduceAdd]
  iterate 1 ((repeat first | refine Qo ?_ | refine Qn ?_); (first | (refine QK (by kernel_rfl) ?_; intro K_ hK_; simp -implicitDefEqProofs (disch := (try simp only [sl]); try omega) only [sm,QJ,Qj,Qi,Qq,QC,bd,look,aput,Qm,Qh,ty,↓reduceIte,Nat.reduceEqDiff,Nat.reduceAdd,Nat.reduceSub,Nat.reduceMul,Int.reduceLT,Int.reduceLE,Int.reduceNeg,Int.reduceToNat,reduceCtorEq,Nat.reduceBEq,Nat.reduceBNe,Qk,Qe,Value.cells,am,mm,keep, f_, fo_, aint, bd, hA, hB, bda, ha, hb, hS, zl, hra, zRx, xt, xo, hii]; refine hK_ _ _ ?_; clear hK_ K_; repeat first | refine QL ?_ | refine QM ?_)))
  (repeat first | refine Qo ?_ | refine Qn ?_); refine QK (by kernel_rfl) ?_; intro K_ hK_; simp -implicitDefEqProofs (disch := (try simp only [sl]); try omega) only [sm,QJ,Qj,Qi,Qq,QC,bd,look,aput,Qm,Qh,ty,↓reduceIte,Nat.reduceEqDiff,Nat.reduceAdd,Nat.reduceSub,Nat.reduceMul,Int.reduceLT,Int.reduceLE,Int.reduceNeg,Int.reduceToNat,reduceCtorEq,Nat.reduceBEq,Nat.reduceBNe,Qk,Qe,Value.cells,am,mm,keep, f_, fo_, aint, bd, hA, hB, bda, ha, hb, hS, zl, hra, zRx, xt, xo, hii]
  first | refine ACalls.snap8 N_ ?_ | refine ACalls.snap7 N_ ?_ | refine ACalls.snap6 N_ ?_ | refine ACalls.snap5 N_ ?_ | refine ACalls.snap4 N_ ?_ | refine ACalls.snap3 N_ ?_ | refine ACalls.snap2 N_ ?_ | refine ACalls.snap1 N_ ?_
  clear fo_; have fo_ := f_; clear f_ N_; intro H1 xH1 lH1 N_
  have f_ := N_.has
  simp only [Has] at f_
  have hs1 : SLn H1 (.slice (some ⟨H.length, 0, none⟩) 2 34) L.length (flR L) := .inr ⟨H.length, 0, 34, by rw [hlen], .inr ⟨_, f_.1.2.2, by omega, by rw [List.drop_zero, List.take_length]⟩⟩
  refine ACalls.mono (nlay_calls _ L H1 hs1 wl (by rw [hlen]; decide)) ?_
  rintro _ H2 ⟨⟨x, rfl, o2⟩, e2⟩
  rw [hE]
  rw [hK] at o2
  replace N_ := N_.grow e2
  clear fo_; have fo_ := f_; clear f_
  have f_ := N_.has
  simp only [Has] at f_
  try simp -implicitDefEqProofs (disch := (try simp only [sl]); try omega) only [sm,QJ,Qj,Qi,Qq,QC,bd,look,aput,Qm,Qh,ty,↓reduceIte,Nat.reduceEqDiff,Nat.reduceAdd,Nat.reduceSub,Nat.reduceMul,Int.reduceLT,Int.reduceLE,Int.reduceNeg,Int.reduceToNat,reduceCtorEq,Nat.reduceBEq,Nat.reduceBNe,Qk,Qe,Value.cells,am,mm,keep, f_, fo_, aint, bd, hA, hB, bda, ha, hb, hS, zl, hra, zRx, xt, xo, hii]
  try (refine hK_ _ _ ?_; clear hK_ K_; repeat first | refine QL ?_ | refine QM ?_)
  (repeat first | refine Qo ?_ | refine Qn ?_); refine QK (by kernel_rfl) ?_; intro K_ hK_; simp -implicitDefEqProofs (disch := (try simp only [sl]); try omega) only [sm,QJ,Qj,Qi,Qq,QC,bd,look,aput,Qm,Qh,ty,↓reduceIte,Nat.reduceEqDiff,Nat.reduceAdd,Nat.reduceSub,Nat.reduceMul,Int.reduceLT,Int.reduceLE,Int.reduceNeg,Int.reduceToNat,reduceCtorEq,Nat.reduceBEq,Nat.reduceBNe,Qk,Qe,Value.cells,am,mm,keep, f_, fo_, aint, bd, hA, hB, bda, ha, hb, hS, zl, hra, zRx, xt, xo, hii]
  refine ACalls.mono (nget_calls x P 1 H2 o2.sl (by omega)) ?_
  rintro _ H3 ⟨rfl, e3⟩
  rw [hgE, hgR]
  replace N_ := N_.grow e3
  clear fo_; have fo_ := f_; clear f_
  have f_ := N_.has
  simp only [Has] at f_
  try simp -implicitDefEqProofs (disch := (try simp only [sl]); try omega) only [sm,QJ,Qj,Qi,Qq,QC,bd,look,aput,Qm,Qh,ty,↓reduceIte,Nat.reduceEqDiff,Nat.reduceAdd,Nat.reduceSub,Nat.reduceMul,Int.reduceLT,Int.reduceLE,Int.reduceNeg,Int.reduceToNat,reduceCtorEq,Nat.reduceBEq,Nat.reduceBNe,Qk,Qe,Value.cells,am,mm,keep, f_, fo_, aint, bd, hA, hB, bda, ha, hb, hS, zl, hra, zRx, xt, xo, hii]
  try (refine hK_ _ _ ?_; clear hK_ K_; repeat first | refine QL ?_ | refine QM ?_)
  first | refine AWp.snap8 N_ ?_ | refine AWp.snap7 N_ ?_ | refine AWp.snap6 N_ ?_ | refine AWp.snap5 N_ ?_ | refine AWp.snap4 N_ ?_ | refine AWp.snap3 N_ ?_ | refine AWp.snap2 N_ ?_ | refine AWp.snap1 N_ ?_
  clear fo_; have fo_ := f_; clear f_ N_; intro H4 xH4 lH4 N_
  have f_ := N_.has
  simp only [Has] at f_
  have hm : ∀ (ρ : Operand → Value) (x y : Operand), ρ x = .int .i64 256 → ρ y = .int .i64 256 → anew Tryd.prog ρ (.makeSlice 22 x y) = some ((zb 256).map U8, fun g => .slice (some ⟨g, 0, none⟩) 256 1) := fun ρ x y hx hy => by
    rw [anew_ms (size := 1) (bytes := 1) (z := #[.int .u8 0]) (by kernel_rfl) hx hy (by omega) (by omega) (by omega) (by omega) rfl, zeros1]
    rfl
  have hmT := fun T => hm (aeval T) (.const (.int .i64 256)) (.const (.int .i64 256)) rfl rfl
  have lx := alen_sl (P := Tryd.prog) (T := 22) (by simp only [ty]) o2.sl
  rw [List.length_map, hpl] at lx
  (repeat first | refine Qo ?_ | refine Qn ?_); refine QK (by kernel_rfl) ?_; intro K_ hK_; simp -implicitDefEqProofs (disch := (try simp only [sl]); try omega) only [sm,QJ,Qj,Qi,Qq,QC,bd,look,aput,Qm,Qh,ty,↓reduceIte,Nat.reduceEqDiff,Nat.reduceAdd,Nat.reduceSub,Nat.reduceMul,Int.reduceLT,Int.reduceLE,Int.reduceNeg,Int.reduceToNat,reduceCtorEq,Nat.reduceBEq,Nat.reduceBNe,Qk,Qe,Value.cells,am,mm,keep, f_, fo_, aint, hmT, zl, hra, zRx, xt, xo, hii]
  first | refine ACalls.snap8 N_ ?_ | refine ACalls.snap7 N_ ?_ | refine ACalls.snap6 N_ ?_ | refine ACalls.snap5 N_ ?_ | refine ACalls.snap4 N_ ?_ | refine ACalls.snap3 N_ ?_ | refine ACalls.snap2 N_ ?_ | refine ACalls.snap1 N_ ?_
  clear fo_; have fo_ := f_; clear f_ N_; intro H5 xH5 lH5 N_
  have f_ := N_.has
  simp only [Has] at f_
  have hz5 : SL H5 (.slice (some ⟨H4.length, 0, none⟩) 256 1) ((zb 256).map U8) := SL.own 256 (by rw [List.length_map, zb_length]) f_.1.2.1
  obtain ⟨g, o, e', cs, rfl, hcs, hg, h1, hk1, hk0⟩ := (o2.sl.mono (e3.trans (xH4.trans xH5))).bytes (by omega)
  have q0 : cs[o]? = some (.int .u8 2) := by rw [hk0, hp0]; rfl
  rw [hpl] at *
  have f5 := f_
  refine ACalls.mono (nparse_calls _ (zb 256) 1 H5 hz5 (by rw [zb_length]; decide)) ?_
  rintro _ H6 ⟨⟨y, rfl, o6⟩, e6⟩
  rw [hz]
  replace N_ := N_.grow e6
  clear fo_; have fo_ := f_; clear f_
  have f_ := N_.has
  simp only [Has] at f_
  have hcs6 := e6.cells hcs
  try simp -implicitDefEqProofs (disch := (try simp only [sl]); try omega) only [sm,QJ,Qj,Qi,Qq,QC,bd,look,aput,Qm,Qh,ty,↓reduceIte,Nat.reduceEqDiff,Nat.reduceAdd,Nat.reduceSub,Nat.reduceMul,Int.reduceLT,Int.reduceLE,Int.reduceNeg,Int.reduceToNat,reduceCtorEq,Nat.reduceBEq,Nat.reduceBNe,Qk,Qe,Value.cells,am,mm,keep, f_, fo_, aint, zl, hra, zRx, xt, xo, hii, lx, hcs6, q0, hB0, hb]
  try (refine hK_ _ _ ?_; clear hK_ K_; repeat first | refine QL ?_ | refine QM ?_)
  iterate 1 ((repeat first | refine Qo ?_ | refine Qn ?_); (first | (refine QK (by kernel_rfl) ?_; intro K_ hK_; simp -implicitDefEqProofs (disch := (try simp only [sl]); try omega) only [sm,QJ,Qj,Qi,Qq,QC,Qz,bd,QF,look,aput,QI,abin,anil,Qb,Qc,QA,ty,↓reduceIte,Nat.reduceEqDiff,Nat.reduceAdd,Nat.reduceSub,Nat.reduceMul,Int.reduceLT,Int.reduceLE,Int.reduceNeg,Int.reduceToNat,reduceCtorEq,Nat.reduceBEq,Nat.reduceBNe,Qk,Qe,Value.cells,am,mm,keep, f_, fo_, aint, zl, hra, zRx, xt, xo, hii, lx, hcs6, q0, hB0, hb]; refine hK_ _ _ ?_; clear hK_ K_; repeat first | refine QL ?_ | refine QM ?_)))
  first | refine awp_ret ?_ | skip
  show ∃ v, aresults Tryd.prog Tryd.f46 _ _ = some v ∧ _
  rw [aresults_1 (r := .tmp 0) (by kernel_rfl)]
  simp -implicitDefEqProofs (disch := (try simp only [sl]); try omega) only [aresult, Option.some.injEq, exists_eq_left', sm,Qj,Qi,Qq,QC,Qz,bd,QF,look,aput,QB,Qf,QA,ty,↓reduceIte,Nat.reduceEqDiff,Nat.reduceAdd,Nat.reduceSub,Nat.reduceMul,Int.reduceLT,Int.reduceLE,Int.reduceNeg,Int.reduceToNat,reduceCtorEq,Nat.reduceBEq,Nat.reduceBNe,Qk,Qe,Value.cells,am,mm,keep, f_, fo_, aint, zl, hra, zRx, xt, xo, hii, lx, hcs6, q0, hB0, hb]
  exact N_.ext
end Go.Proofs.YtfhbieimffjjkaaDoor
