/- ledger: Runs, Len, All. -/
import Derived.Test.YtldfnfpinemedaaLe6
import Derived.Test.YtldfnfpinemedaaLe7
namespace Go.Proofs.Ytldfnfpinemedaa
open Go Go.RowKit
--hide
set_option linter.unusedSimpArgs false
set_option linter.unusedVariables false
set_option maxRecDepth 4000
theorem LdI.at {b p : Nat} {H : AH} {w : Value} {L : List Rn} (h : LdI b p H w L) : ∀ q o n e, w = .slice (some ⟨q, o, none⟩) n e → q < H.length ∧ b ≤ q := h.2.1.lt
theorem Upd.keep {b p : Nat} {w w' : Value} {L L' : List Rn} {E H H' : AH} (h : Upd b p w H w' L' H') (hl : LdI b p H w L) (e : Ext E H) (hE : E.length ≤ b) : Ext E H' := fun q y hy => by
  have hq := got_lt hy
  exact h.only q y (by have := hl.2.2.1; omega) (fun o n e' k => by have := (hl.at _ _ _ _ k).2; omega) (e q y hy)
set_option maxHeartbeats 4000000 in
theorem runs_calls (p b : Nat) (w : Value) (L : List Rn) (H : AH) (h : LdI b p H w L) (hm : L.length ≤ 1000) : ACalls Try.prog 17 #[.pointer (some ⟨p, 0, none⟩)] H fun v H' => OSn 3 H.length H' v L.length (flR L) ∧ Ext H H' := by
  have hp := h.1
  have c := AH.cells_own hp
  have q0 : ([w, .bool true] : List Value)[0]? = some w := rfl
  have fo_ : True := trivial
  have N_ := Now.start H
  have f_ := N_.has
  simp only [Has] at f_
  refine acalls_of_body Try.func17 rfl Try.ntmps17 (by simp) ?_
  simp only [argsT, Nat.reduceAdd]
  iterate 1 ((repeat first | refine Qo ?_ | refine Qn ?_); (first | (refine QK (by kernel_rfl) ?_; intro K_ hK_; simp -implicitDefEqProofs (disch := (try simp only [sl]); try omega) only [sm,QJ,Qj,Qi,Qq,QC,bd,look,aput,Qm,QG,ty,↓reduceIte,Nat.reduceEqDiff,Nat.reduceAdd,Nat.reduceSub,Nat.reduceMul,Int.reduceLT,Int.reduceLE,Int.reduceNeg,Int.reduceToNat,reduceCtorEq,Nat.reduceBEq,Nat.reduceBNe,Qk,Qe,Value.cells,am,mm,keep, f_, fo_, aint, c, q0, Bool.not_true]; refine hK_ _ _ ?_; clear hK_ K_; repeat first | refine QL ?_ | refine QM ?_)))
  (repeat first | refine Qo ?_ | refine Qn ?_); refine QK (by kernel_rfl) ?_; intro K_ hK_; simp -implicitDefEqProofs (disch := (try simp only [sl]); try omega) only [sm,QJ,Qj,Qi,Qq,QC,bd,look,aput,Qm,QG,ty,↓reduceIte,Nat.reduceEqDiff,Nat.reduceAdd,Nat.reduceSub,Nat.reduceMul,Int.reduceLT,Int.reduceLE,Int.reduceNeg,Int.reduceToNat,reduceCtorEq,Nat.reduceBEq,Nat.reduceBNe,Qk,Qe,Value.cells,am,mm,keep, f_, fo_, aint, c, q0, Bool.not_true]
  refine ACalls.mono (ok_calls p w true H hp) ?_
  rintro _ G ⟨rfl, rfl⟩
  try simp -implicitDefEqProofs (disch := (try simp only [sl]); try omega) only [sm,QJ,Qj,Qi,Qq,QC,bd,look,aput,Qm,QG,ty,↓reduceIte,Nat.reduceEqDiff,Nat.reduceAdd,Nat.reduceSub,Nat.reduceMul,Int.reduceLT,Int.reduceLE,Int.reduceNeg,Int.reduceToNat,reduceCtorEq,Nat.reduceBEq,Nat.reduceBNe,Qk,Qe,Value.cells,am,mm,keep, f_, fo_, aint, c, q0, Bool.not_true]
  try (refine hK_ _ _ ?_; clear hK_ K_; repeat first | refine QL ?_ | refine QM ?_)
  repeat first | refine Qo ?_ | refine Qn ?_
  refine awp_if false rfl (by first | (simp only [aeval_tmp, look, ↓reduceIte, Nat.reduceEqDiff]; try rfl) | rfl) (fun h => absurd h (by decide)) (fun _ => ?_)
  iterate 1 ((repeat first | refine Qo ?_ | refine Qn ?_); (first | (refine QK (by kernel_rfl) ?_; intro K_ hK_; simp -implicitDefEqProofs (disch := (try simp only [sl]); try omega) only [sm,QJ,Qj,Qi,Qq,QC,Qz,bd,QF,look,aput,Qm,Qc,QA,Qd,ty,↓reduceIte,Nat.reduceEqDiff,Nat.reduceAdd,Nat.reduceSub,Nat.reduceMul,Int.reduceLT,Int.reduceLE,Int.reduceNeg,Int.reduceToNat,reduceCtorEq,Nat.reduceBEq,Nat.reduceBNe,Qk,Qe,Value.cells,am,mm,keep, f_, fo_, aint, c, q0, Bool.not_true]; refine hK_ _ _ ?_; clear hK_ K_; repeat first | refine QL ?_ | refine QM ?_) | (refine awp_skip ?_; repeat first | refine QL ?_ | refine QM ?_)))
  (repeat first | refine Qo ?_ | refine Qn ?_); refine QK (by kernel_rfl) ?_; intro K_ hK_; simp -implicitDefEqProofs (disch := (try simp only [sl]); try omega) only [sm,QJ,Qj,Qi,Qq,QC,Qz,bd,QF,look,aput,Qm,Qc,QA,Qd,ty,↓reduceIte,Nat.reduceEqDiff,Nat.reduceAdd,Nat.reduceSub,Nat.reduceMul,Int.reduceLT,Int.reduceLE,Int.reduceNeg,Int.reduceToNat,reduceCtorEq,Nat.reduceBEq,Nat.reduceBNe,Qk,Qe,Value.cells,am,mm,keep, f_, fo_, aint, c, q0, Bool.not_true]
  refine ACalls.mono (cloneR_calls w L G (h.2.1.sln (ruc_hl L)) hm) ?_
  rintro v H1 ⟨o1, e1⟩
  try simp -implicitDefEqProofs (disch := (try simp only [sl]); try omega) only [sm,QJ,Qj,Qi,Qq,QC,Qz,bd,QF,look,aput,Qm,Qc,QA,Qd,ty,↓reduceIte,Nat.reduceEqDiff,Nat.reduceAdd,Nat.reduceSub,Nat.reduceMul,Int.reduceLT,Int.reduceLE,Int.reduceNeg,Int.reduceToNat,reduceCtorEq,Nat.reduceBEq,Nat.reduceBNe,Qk,Qe,Value.cells,am,mm,keep, f_, fo_, aint, c, q0, Bool.not_true]
  try (refine hK_ _ _ ?_; clear hK_ K_; repeat first | refine QL ?_ | refine QM ?_)
  first | refine awp_ret ?_ | skip
  show ∃ v, aresults Try.prog Try.f17 _ _ = some v ∧ _
  rw [aresults_1 (r := .tmp 2) (by kernel_rfl)]
  simp -implicitDefEqProofs (disch := (try simp only [sl]); try omega) only [aresult, Option.some.injEq, exists_eq_left', sm,Qj,Qi,Qq,QC,Qz,bd,QF,look,aput,QB,Qf,QA,ty,↓reduceIte,Nat.reduceEqDiff,Nat.reduceAdd,Nat.reduceSub,Nat.reduceMul,Int.reduceLT,Int.reduceLE,Int.reduceNeg,Int.reduceToNat,reduceCtorEq,Nat.reduceBEq,Nat.reduceBNe,Qk,Qe,Value.cells,am,mm,keep, f_, fo_, aint, c, q0, Bool.not_true]
  exact ⟨o1, e1⟩
theorem sumR_nonneg {L : List Rn} (hc : ∀ r ∈ L, okR r) : 0 ≤ sumR L := by
  have := run_few hc; omega
theorem sumR_append (A B : List Rn) : sumR (A ++ B) = sumR A + sumR B := by simp [sumR]
theorem sumR_take {L : List Rn} (hc : ∀ r ∈ L, okR r) (i : Nat) : sumR (L.take i) ≤ sumR L := by
  have e : sumR L = sumR (L.take i) + sumR (L.drop i) := by rw [← sumR_append, List.take_append_drop]
  have := sumR_nonneg (L := L.drop i) (fun r hr => hc r (List.mem_of_mem_drop hr))
  omega
theorem zR : [Value.int .u32 0, Value.int .i64 0, Value.int .i64 0] = ruc (0, 0, 0) := rfl
theorem ruc_ovr (x y : Rn) : ovr (ruc x) 0 (ruc y) = ruc y := ovr_all _ _ rfl
set_option maxHeartbeats 4000000 in
theorem len_calls (p b : Nat) (w : Value) (L : List Rn) (H : AH) (h : LdI b p H w L) (hc : ∀ r ∈ L, okR r) (hm : sumR L ≤ 1000) : ACalls Try.prog 19 #[.pointer (some ⟨p, 0, none⟩)] H fun v H' => v = .int .i64 (sumR L) ∧ Ext H H' := by
  have hfew := run_few hc
  have fo_ : True := trivial
  have N_ := Now.start H
  have f_ := N_.has
  simp only [Has] at f_
  refine acalls_of_body Try.func19 rfl Try.ntmps19 (by simp) ?_
  simp only [argsT, Nat.reduceAdd]
  iterate 2 ((repeat first | refine Qo ?_ | refine Qn ?_); (first | (refine QK (by kernel_rfl) ?_; intro K_ hK_; simp -implicitDefEqProofs (disch := (try simp only [sl]); try omega) only [sm,QJ,Qj,Qi,Qq,QC,bd,look,aput,Qm,ty,↓reduceIte,Nat.reduceEqDiff,Nat.reduceAdd,Nat.reduceSub,Nat.reduceMul,Int.reduceLT,Int.reduceLE,Int.reduceNeg,Int.reduceToNat,reduceCtorEq,Nat.reduceBEq,Nat.reduceBNe,Qk,Qe,Value.cells,am,mm,keep, f_, fo_, aint]; refine hK_ _ _ ?_; clear hK_ K_; repeat first | refine QL ?_ | refine QM ?_)))
  (repeat first | refine Qo ?_ | refine Qn ?_); refine QK (by kernel_rfl) ?_; intro K_ hK_; simp -implicitDefEqProofs (disch := (try simp only [sl]); try omega) only [sm,QJ,Qj,Qi,Qq,QC,bd,look,aput,Qm,ty,↓reduceIte,Nat.reduceEqDiff,Nat.reduceAdd,Nat.reduceSub,Nat.reduceMul,Int.reduceLT,Int.reduceLE,Int.reduceNeg,Int.reduceToNat,reduceCtorEq,Nat.reduceBEq,Nat.reduceBNe,Qk,Qe,Value.cells,am,mm,keep, f_, fo_, aint]
  refine ACalls.mono (runs_calls p b w L H h (by omega)) ?_
  rintro v H1 ⟨o1, e1⟩
  have hv := o1.sln
  have lv := alen_slnU (P := Try.prog) (T := 38) (by simp only [ty]) hv
  replace N_ := N_.grow e1
  clear fo_; have fo_ := f_; clear f_
  have f_ := N_.has
  simp only [Has] at f_
  try simp -implicitDefEqProofs (disch := (try simp only [sl]); try omega) only [sm,QJ,Qj,Qi,Qq,QC,bd,look,aput,Qm,ty,↓reduceIte,Nat.reduceEqDiff,Nat.reduceAdd,Nat.reduceSub,Nat.reduceMul,Int.reduceLT,Int.reduceLE,Int.reduceNeg,Int.reduceToNat,reduceCtorEq,Nat.reduceBEq,Nat.reduceBNe,Qk,Qe,Value.cells,am,mm,keep, f_, fo_, aint, lv]
  try (refine hK_ _ _ ?_; clear hK_ K_; repeat first | refine QL ?_ | refine QM ?_)
  repeat first | refine Qo ?_ | refine Qn ?_
  refine awp_forK [7, 8] (fun x : Nat × AH => [(9, I64 x.1), (3, .int .i64 (sumR (L.take x.1)))]) (fun x : Nat × AH => x.2) (fun x : Nat × AH => x.1 ≤ L.length ∧ Ext H1 x.2) (fun x : Nat × AH => L.length - x.1) ((0, H1)) (⟨Nat.zero_le _, Ext.refl _⟩) (by repeat first | exact Forgets.nil | refine Forgets.cons (by first | (simp only [look, ↓reduceIte, Nat.reduceEqDiff]; done) | (simp only [look, ↓reduceIte, Nat.reduceEqDiff]; rfl) | simp [look]) ?_) rfl ?_
  rintro ⟨i, H2⟩ ⟨hi, x2⟩
  simp only [] at hi x2 ⊢
  clear f_ fo_ N_
  have N_ : Now H H2 [] := ⟨e1.trans x2, trivial⟩
  have f_ := N_.has
  simp only [Has] at f_
  have fo_ := True.intro
  by_cases hlt : i < L.length
  · obtain ⟨g, o, e, cs, hve, hcs, hcc, hlen⟩ := hv.at (ruc_hl L) i hlt
    cases hve
    have hts : sumR (L.take (i + 1)) = sumR (L.take i) + L[i].2.2 := by
      rw [List.take_succ_eq_append_getElem hlt, sumR_append]; simp [sumR]
    have hle := sumR_take hc (i + 1)
    have hnn := sumR_nonneg (L := L.take i) (fun r hr => hc r (List.mem_of_mem_take hr))
    have hxo := hc _ (List.getElem_mem hlt)
    generalize L[i] = x at *
    have hx1 : 1 ≤ x.2.2 := hxo.2.2.1
    have hcs2 := x2.cells hcs
    have xl := ruc_length x
    have xc := ruc_cellv x
    have xt := ruc_take x
    have x2' := ruc_2 x
    have xo := ruc_ovr (0, 0, 0) x
    have zl := ruc_length (0, 0, 0)
    have hii : IntKind.i64.wrap ((i : Int) + 1) = (i : Int) + 1 := wi64 _ (by omega) (by omega)
    have hss : IntKind.i64.wrap (sumR (L.take i) + x.2.2) = sumR (L.take (i + 1)) := by rw [hts]; exact wi64 _ (by omega) (by omega)
    iterate 1 ((repeat first | refine Qo ?_ | refine Qn ?_); (first | (refine QK (by kernel_rfl) ?_; intro K_ hK_; simp -implicitDefEqProofs (disch := (try simp only [sl]); try omega) only [sm,QJ,Qj,Qi,Qq,QC,bd,look,aput,QI,abin,anil,ty,↓reduceIte,Nat.reduceEqDiff,Nat.reduceAdd,Nat.reduceSub,Nat.reduceMul,Int.reduceLT,Int.reduceLE,Int.reduceNeg,Int.reduceToNat,reduceCtorEq,Nat.reduceBEq,Nat.reduceBNe,Qk,Qe,Value.cells,am,mm,keep, f_, fo_, aint, lv, hcs2, hcc, hlen, xl, xc, xt, x2', xo, zl, zR, hlt]; refine hK_ _ _ ?_; clear hK_ K_; repeat first | refine QL ?_ | refine QM ?_)))
    repeat first | refine Qo ?_ | refine Qn ?_
    refine awp_if true rfl (by first | (simp only [aeval_tmp, look, ↓reduceIte, Nat.reduceEqDiff]; try rfl) | rfl) (fun _ => ?_) (fun h => absurd h (by decide))
    iterate 2 ((repeat first | refine Qo ?_ | refine Qn ?_); (first | (refine QK (by kernel_rfl) ?_; intro K_ hK_; simp -implicitDefEqProofs (disch := (try simp only [sl]); try omega) only [sm,QJ,Qj,Qi,Qq,QC,Qz,bd,QF,look,aput,Qm,Qb,QA,ty,↓reduceIte,Nat.reduceEqDiff,Nat.reduceAdd,Nat.reduceSub,Nat.reduceMul,Int.reduceLT,Int.reduceLE,Int.reduceNeg,Int.reduceToNat,reduceCtorEq,Nat.reduceBEq,Nat.reduceBNe,Qk,Qe,Value.cells,am,mm,keep, f_, fo_, aint, lv, hcs2, hcc, hlen, xl, xc, xt, x2', xo, zl, zR, hlt]; refine hK_ _ _ ?_; clear hK_ K_; repeat first | refine QL ?_ | refine QM ?_) | (refine awp_skip ?_; repeat first | refine QL ?_ | refine QM ?_)))
    first | refine AWp.snap8 N_ ?_ | refine AWp.snap7 N_ ?_ | refine AWp.snap6 N_ ?_ | refine AWp.snap5 N_ ?_ | refine AWp.snap4 N_ ?_ | refine AWp.snap3 N_ ?_ | refine AWp.snap2 N_ ?_ | refine AWp.snap1 N_ ?_
    clear fo_; have fo_ := f_; clear f_ N_; intro H3 xH3 lH3 N_
    have f_ := N_.has
    simp only [Has] at f_
    iterate 2 ((repeat first | refine Qo ?_ | refine Qn ?_); (first | (refine QK (by kernel_rfl) ?_; intro K_ hK_; simp -implicitDefEqProofs (disch := (try simp only [sl]); try omega) only [sm,QJ,Qj,Qi,Qq,QC,Qz,bd,QF,look,aput,QI,abin,anil,Qc,QA,ty,↓reduceIte,Nat.reduceEqDiff,Nat.reduceAdd,Nat.reduceSub,Nat.reduceMul,Int.reduceLT,Int.reduceLE,Int.reduceNeg,Int.reduceToNat,reduceCtorEq,Nat.reduceBEq,Nat.reduceBNe,Qk,Qe,Value.cells,am,mm,keep, f_, fo_, aint, lv, hcs2, hcc, hlen, xl, xc, xt, x2', xo, zl, zR, hss, hii]; refine hK_ _ _ ?_; clear hK_ K_; repeat first | refine QL ?_ | refine QM ?_)))
    refine ⟨(i + 1, H3), ⟨by simp only []; omega, x2.trans xH3⟩, (by repeat first | exact Forgets.nil | refine Forgets.cons (by first | (simp only [look, ↓reduceIte, Nat.reduceEqDiff]; done) | (simp only [look, ↓reduceIte, Nat.reduceEqDiff]; rfl) | simp [look, hii]) ?_), ?_⟩
    first | omega | exact ⟨rfl, by omega⟩ | exact ⟨rfl, by simp only []; omega⟩ | (simp only []; omega)
  obtain rfl : i = L.length := by omega
  rw [List.take_length]
  iterate 1 ((repeat first | refine Qo ?_ | refine Qn ?_); (first | (refine QK (by kernel_rfl) ?_; intro K_ hK_; simp -implicitDefEqProofs (disch := (try simp only [sl]); try omega) only [sm,QJ,Qj,Qi,Qq,QC,bd,look,aput,QI,abin,anil,ty,↓reduceIte,Nat.reduceEqDiff,Nat.reduceAdd,Nat.reduceSub,Nat.reduceMul,Int.reduceLT,Int.reduceLE,Int.reduceNeg,Int.reduceToNat,reduceCtorEq,Nat.reduceBEq,Nat.reduceBNe,Qk,Qe,Value.cells,am,mm,keep, f_, fo_, aint, lv, hlt]; refine hK_ _ _ ?_; clear hK_ K_; repeat first | refine QL ?_ | refine QM ?_)))
  repeat first | refine Qo ?_ | refine Qn ?_
  refine awp_if false rfl (by first | (simp only [aeval_tmp, look, ↓reduceIte, Nat.reduceEqDiff]; try rfl) | rfl) (fun h => absurd h (by decide)) (fun _ => ?_)
  iterate 2 ((repeat first | refine Qo ?_ | refine Qn ?_); (first | (refine QK (by kernel_rfl) ?_; intro K_ hK_; simp -implicitDefEqProofs (disch := (try simp only [sl]); try omega) only [sm,QJ,Qj,Qi,Qq,QC,bd,look,aput,ty,↓reduceIte,Nat.reduceEqDiff,Nat.reduceAdd,Nat.reduceSub,Nat.reduceMul,Int.reduceLT,Int.reduceLE,Int.reduceNeg,Int.reduceToNat,reduceCtorEq,Nat.reduceBEq,Nat.reduceBNe,Qk,Qe,Value.cells,am,mm,keep, f_, fo_, aint, lv]; refine hK_ _ _ ?_; clear hK_ K_; repeat first | refine QL ?_ | refine QM ?_) | (refine awp_exit ?_; (repeat first | refine aThen_exit ?_ | refine aIn_out rfl ?_); refine aIn_here ?_; repeat first | refine QL ?_ | refine QM ?_)))
  first | refine awp_ret ?_ | skip
  show ∃ v, aresults Try.prog Try.f19 _ _ = some v ∧ _
  rw [aresults_1 (r := .tmp 2) (by kernel_rfl)]
  simp -implicitDefEqProofs (disch := (try simp only [sl]); try omega) only [aresult, Option.some.injEq, exists_eq_left', sm,Qj,Qi,Qq,QC,Qz,bd,QF,look,aput,QB,Qf,QA,ty,↓reduceIte,Nat.reduceEqDiff,Nat.reduceAdd,Nat.reduceSub,Nat.reduceMul,Int.reduceLT,Int.reduceLE,Int.reduceNeg,Int.reduceToNat,reduceCtorEq,Nat.reduceBEq,Nat.reduceBNe,Qk,Qe,Value.cells,am,mm,keep, f_, fo_, aint, lv]
  exact e1.trans x2
def allN (L : List Rn) : List Us → Nat
  | [] => 0
  | u :: t => if adE L u = 0 then allN (addL L u) t + 1 else 0
def allE (L : List Rn) : List Us → Int
  | [] => 0
  | u :: t => if adE L u = 0 then allE (addL L u) t else adE L u
def allL (L : List Rn) : List Us → List Rn
  | [] => L
  | u :: t => if adE L u = 0 then allL (addL L u) t else L
theorem CI.adl {L : List Rn} {r : List Us} (h : CI L r) {u : Us} (h0 : 0 ≤ u.1) (hE : adE L u = 0) : CI (addL L u) (insU r u) ∧ ¬ memR L u ∧ okU u := by
  unfold adE at hE
  split at hE
  · rename_i ho
    split at hE
    · cases hE
    · rename_i hn
      exact ⟨h.add ho h0 hn, hn, ho⟩
  · cases hE
theorem insU_len (l : List Us) (u : Us) : (insU l u).length = l.length + 1 := by
  unfold insU
  rw [List.length_append, List.length_cons]
  have := List.length_eq_countP_add_countP (p := fun x : Us => decide (ltU x u)) (l := l)
  rw [List.countP_eq_length_filter, List.countP_eq_length_filter] at this
  have h2 : (l.filter fun a => decide ¬ (decide (ltU a u) = true)) = l.filter fun a => !(decide (ltU a u)) := by
    apply List.filter_congr; intro x _; cases decide (ltU x u) <;> rfl
  rw [h2] at this
  omega
theorem CI.few {L : List Rn} {r : List Us} (h : CI L r) : L.length ≤ r.length := by
  have h1 := run_few h.1.1
  have h2 := h.len
  omega
theorem usc_ovr (x y : Us) : ovr (usc x) 0 (usc y) = usc y := ovr_all _ _ rfl
theorem zU : [Value.int .u32 0, Value.int .i64 0] = usc (0, 0) := rfl
set_option maxHeartbeats 8000000 in
theorem all_calls (p b : Nat) (w v : Value) (L : List Rn) (r l : List Us) (H : AH) (h : LdI b p H w L) (hci : CI L r) (hv : SLn H v l.length (flU l)) (hm : r.length + l.length ≤ 400) (hb : b ≤ H.length) (hr : ∀ u ∈ l, 0 ≤ u.1) (hvb : ∀ q o n e, v = .slice (some ⟨q, o, none⟩) n e → q ≠ p ∧ ∀ o n e, w ≠ .slice (some ⟨q, o, none⟩) n e) :
    ACalls Try.prog 20 #[.pointer (some ⟨p, 0, none⟩), v] H fun z H' => z = .tuple #[I64 (allN L l), .int .i64 (allE L l)] ∧ ∃ w', Upd b p w H w' (allL L l) H' := by
  have lv := alen_slnU (P := Try.prog) (T := 47) (by simp only [ty]) hv
  have fo_ : True := trivial
  have N_ := Now.start H
  have f_ := N_.has
  simp only [Has] at f_
  refine acalls_of_body Try.func20 rfl Try.ntmps20 (by simp) ?_
  simp only [argsT, Nat.reduceAdd]
  iterate 2 ((repeat first | refine Qo ?_ | refine Qn ?_); (first | (refine QK (by kernel_rfl) ?_; intro K_ hK_; simp -implicitDefEqProofs (disch := (try simp only [sl]); try omega) only [sm,QJ,Qj,Qi,Qq,QC,bd,look,aput,ty,↓reduceIte,Nat.reduceEqDiff,Nat.reduceAdd,Nat.reduceSub,Nat.reduceMul,Int.reduceLT,Int.reduceLE,Int.reduceNeg,Int.reduceToNat,reduceCtorEq,Nat.reduceBEq,Nat.reduceBNe,Qk,Qe,Value.cells,am,mm,keep, f_, fo_, aint, lv]; refine hK_ _ _ ?_; clear hK_ K_; repeat first | refine QL ?_ | refine QM ?_)))
  repeat first | refine Qo ?_ | refine Qn ?_
  refine awp_forK [0, 1, 9, 10] (fun x : Nat × Value × List Rn × List Us × AH => [(11, I64 x.1)]) (fun x : Nat × Value × List Rn × List Us × AH => x.2.2.2.2) (fun x : Nat × Value × List Rn × List Us × AH => x.1 ≤ l.length ∧ Upd b p w H x.2.1 x.2.2.1 x.2.2.2.2 ∧ CI x.2.2.1 x.2.2.2.1 ∧ x.2.2.2.1.length = r.length + x.1 ∧ allN L l = x.1 + allN x.2.2.1 (l.drop x.1) ∧ allE L l = allE x.2.2.1 (l.drop x.1) ∧ allL L l = allL x.2.2.1 (l.drop x.1)) (fun x : Nat × Value × List Rn × List Us × AH => l.length - x.1) ((0, w, L, r, H)) (⟨Nat.zero_le _, Upd.of_ext h (Ext.refl _), hci, rfl, by simp, rfl, rfl⟩) (by repeat first | exact Forgets.nil | refine Forgets.cons (by first | (simp only [look, ↓reduceIte, Nat.reduceEqDiff]; done) | (simp only [look, ↓reduceIte, Nat.reduceEqDiff]; rfl) | simp [look, hii]) ?_) rfl ?_
  rintro ⟨i, w2, L2, r2, H2⟩ ⟨hi, U2, c2, hrl, a1, a2, a3⟩
  simp only [] at hi U2 c2 hrl a1 a2 a3 ⊢
  clear f_ N_
  have N_ : Now H2 H2 [] := ⟨Ext.refl _, trivial⟩
  have f_ := N_.has
  simp only [Has] at f_
  by_cases hlt : i < l.length
  · obtain ⟨g, o, e, cs, hve, hcs, hcc, hlen⟩ := hv.at (usc_hl l) i hlt
    cases hve
    obtain ⟨v1, v2⟩ := hvb _ _ _ _ rfl
    have hcs2 : H2.cells g = some cs := by
      rcases AH.cells_cases hcs with k | k
      · exact AH.cells_own (U2.only _ _ v1 v2 k)
      · exact AH.cells_ro (U2.only _ _ v1 v2 k)
    have hd : l.drop i = l[i] :: l.drop (i + 1) := List.drop_eq_getElem_cons hlt
    rw [hd] at a1 a2 a3
    have h0 := hr _ (List.getElem_mem hlt)
    generalize l[i] = u at *
    have ul := usc_length u
    have uc := usc_cellv u
    have ut := usc_take u
    have uo := usc_ovr (0, 0) u
    have zl := usc_length (0, 0)
    have hii : IntKind.i64.wrap ((i : Int) + 1) = (i : Int) + 1 := wi64 _ (by omega) (by omega)
    have hL2 := c2.few
    iterate 1 ((repeat first | refine Qo ?_ | refine Qn ?_); (first | (refine QK (by kernel_rfl) ?_; intro K_ hK_; simp -implicitDefEqProofs (disch := (try simp only [sl]); try omega) only [sm,QJ,Qj,Qi,Qq,QC,bd,look,aput,QI,abin,anil,ty,↓reduceIte,Nat.reduceEqDiff,Nat.reduceAdd,Nat.reduceSub,Nat.reduceMul,Int.reduceLT,Int.reduceLE,Int.reduceNeg,Int.reduceToNat,reduceCtorEq,Nat.reduceBEq,Nat.reduceBNe,Qk,Qe,Value.cells,am,mm,keep, f_, fo_, aint, lv, hcs2, hcc, hlen, ul, uc, ut, uo, zl, zU, hlt]; refine hK_ _ _ ?_; clear hK_ K_; repeat first | refine QL ?_ | refine QM ?_)))
    repeat first | refine Qo ?_ | refine Qn ?_
    refine awp_if true rfl (by first | (simp only [aeval_tmp, look, ↓reduceIte, Nat.reduceEqDiff]; try rfl) | rfl) (fun _ => ?_) (fun h => absurd h (by decide))
    iterate 2 ((repeat first | refine Qo ?_ | refine Qn ?_); (first | (refine QK (by kernel_rfl) ?_; intro K_ hK_; simp -implicitDefEqProofs (disch := (try simp only [sl]); try omega) only [sm,QJ,Qj,Qi,Qq,QC,Qz,bd,QF,look,aput,Qm,Qb,QA,ty,↓reduceIte,Nat.reduceEqDiff,Nat.reduceAdd,Nat.reduceSub,Nat.reduceMul,Int.reduceLT,Int.reduceLE,Int.reduceNeg,Int.reduceToNat,reduceCtorEq,Nat.reduceBEq,Nat.reduceBNe,Qk,Qe,Value.cells,am,mm,keep, f_, fo_, aint, lv, hcs2, hcc, hlen, ul, uc, ut, uo, zl, zU, hlt]; refine hK_ _ _ ?_; clear hK_ K_; repeat first | refine QL ?_ | refine QM ?_) | (refine awp_skip ?_; repeat first | refine QL ?_ | refine QM ?_)))
    first | refine AWp.snap8 N_ ?_ | refine AWp.snap7 N_ ?_ | refine AWp.snap6 N_ ?_ | refine AWp.snap5 N_ ?_ | refine AWp.snap4 N_ ?_ | refine AWp.snap3 N_ ?_ | refine AWp.snap2 N_ ?_ | refine AWp.snap1 N_ ?_
    clear fo_; have fo_ := f_; clear f_ N_; intro H3 xH3 lH3 N_
    have f_ := N_.has
    simp only [Has] at f_
    have U3 := U2.ext xH3
    (repeat first | refine Qo ?_ | refine Qn ?_); refine QK (by kernel_rfl) ?_; intro K_ hK_; simp -implicitDefEqProofs (disch := (try simp only [sl]); try omega) only [sm,QJ,Qj,Qi,Qq,QC,Qz,bd,QF,look,aput,Qm,QA,ty,↓reduceIte,Nat.reduceEqDiff,Nat.reduceAdd,Nat.reduceSub,Nat.reduceMul,Int.reduceLT,Int.reduceLE,Int.reduceNeg,Int.reduceToNat,reduceCtorEq,Nat.reduceBEq,Nat.reduceBNe,Qk,Qe,Value.cells,am,mm,keep, f_, fo_, aint, lv, hcs2, hcc, hlen, ul, uc, ut, uo, zl, zU]
    refine ACalls.mono (add_calls p b w2 L2 u H3 U3.ld (by omega) c2.1 h0 (Nat.le_trans hb U3.len)) ?_
    rintro _ H4 ⟨rfl, w4, U4⟩
    by_cases hE : adE L2 u = 0
    · have e0 : ((0 : Int) != 0) = false := rfl
      obtain ⟨c4, -, -⟩ := c2.adl h0 hE
      have hL4 : adL L2 u = addL L2 u := by rw [adL, if_pos hE]
      rw [hL4] at U4
      have U5 : Upd b p w H w4 (addL L2 u) H4 := by
        refine ⟨U4.ld, fun q y hq hw hy => ?_, fun q o n e k => ?_, Nat.le_trans U3.len U4.len⟩
        · refine U4.only q y hq (fun o n e k => ?_) (U3.only q y hq hw hy)
          rcases U3.frm _ _ _ _ k with h1 | ⟨o', n', e', h1⟩
          · have := got_lt hy; omega
          · exact hw _ _ _ h1
        · rcases U4.frm _ _ _ _ k with h1 | ⟨o', n', e', h1⟩
          · exact .inl (Nat.le_trans U3.len h1)
          · exact U3.frm _ _ _ _ h1
      rw [allN, if_pos hE] at a1
      rw [allE, if_pos hE] at a2
      rw [allL, if_pos hE] at a3
      rw [hE]
      try simp -implicitDefEqProofs (disch := (try simp only [sl]); try omega) only [sm,QJ,Qj,Qi,Qq,QC,Qz,bd,QF,look,aput,Qm,QA,ty,↓reduceIte,Nat.reduceEqDiff,Nat.reduceAdd,Nat.reduceSub,Nat.reduceMul,Int.reduceLT,Int.reduceLE,Int.reduceNeg,Int.reduceToNat,reduceCtorEq,Nat.reduceBEq,Nat.reduceBNe,Qk,Qe,Value.cells,am,mm,keep, f_, fo_, aint, lv, hcs2, hcc, hlen, ul, uc, ut, uo, zl, zU, e0]
      try (refine hK_ _ _ ?_; clear hK_ K_; repeat first | refine QL ?_ | refine QM ?_)
      iterate 1 ((repeat first | refine Qo ?_ | refine Qn ?_); (first | (refine QK (by kernel_rfl) ?_; intro K_ hK_; simp -implicitDefEqProofs (disch := (try simp only [sl]); try omega) only [sm,QJ,Qj,Qi,Qq,QC,bd,look,aput,QI,abin,anil,ty,↓reduceIte,Nat.reduceEqDiff,Nat.reduceAdd,Nat.reduceSub,Nat.reduceMul,Int.reduceLT,Int.reduceLE,Int.reduceNeg,Int.reduceToNat,reduceCtorEq,Nat.reduceBEq,Nat.reduceBNe,Qk,Qe,Value.cells,am,mm,keep, f_, fo_, aint, lv, hcs2, hcc, hlen, ul, uc, ut, uo, zl, zU, e0]; refine hK_ _ _ ?_; clear hK_ K_; repeat first | refine QL ?_ | refine QM ?_)))
      repeat first | refine Qo ?_ | refine Qn ?_
      refine awp_if false rfl (by first | (simp only [aeval_tmp, look, ↓reduceIte, Nat.reduceEqDiff]; try rfl) | rfl) (fun h => absurd h (by decide)) (fun _ => ?_)
      iterate 2 ((repeat first | refine Qo ?_ | refine Qn ?_); (first | (refine QK (by kernel_rfl) ?_; intro K_ hK_; simp -implicitDefEqProofs (disch := (try simp only [sl]); try omega) only [sm,QJ,Qj,Qi,Qq,QC,bd,look,aput,QI,abin,anil,ty,↓reduceIte,Nat.reduceEqDiff,Nat.reduceAdd,Nat.reduceSub,Nat.reduceMul,Int.reduceLT,Int.reduceLE,Int.reduceNeg,Int.reduceToNat,reduceCtorEq,Nat.reduceBEq,Nat.reduceBNe,Qk,Qe,Value.cells,am,mm,keep, f_, fo_, aint, lv, hcs2, hcc, hlen, ul, uc, ut, uo, zl, zU, hii]; refine hK_ _ _ ?_; clear hK_ K_; repeat first | refine QL ?_ | refine QM ?_) | (refine awp_skip ?_; repeat first | refine QL ?_ | refine QM ?_)))
      refine ⟨(i + 1, w4, addL L2 u, insU r2 u, H4), ⟨by simp only []; omega, U5, c4, by simp only [insU_len]; omega, by simp only []; omega, a2, a3⟩, (by repeat first | exact Forgets.nil | refine Forgets.cons (by first | (simp only [look, ↓reduceIte, Nat.reduceEqDiff]; done) | (simp only [look, ↓reduceIte, Nat.reduceEqDiff]; rfl) | simp [look, hii]) ?_), ?_⟩
      first | omega | exact ⟨rfl, by omega⟩ | exact ⟨rfl, by simp only []; omega⟩ | (simp only []; omega)
    · have e0 : (adE L2 u != 0) = true := by rw [bne_iff_ne]; exact hE
      have hL4 : adL L2 u = L2 := by rw [adL, if_neg hE]
      rw [hL4] at U4
      have U5 : Upd b p w H w4 L2 H4 := by
        refine ⟨U4.ld, fun q y hq hw hy => ?_, fun q o n e k => ?_, Nat.le_trans U3.len U4.len⟩
        · refine U4.only q y hq (fun o n e k => ?_) (U3.only q y hq hw hy)
          rcases U3.frm _ _ _ _ k with h1 | ⟨o', n', e', h1⟩
          · have := got_lt hy; omega
          · exact hw _ _ _ h1
        · rcases U4.frm _ _ _ _ k with h1 | ⟨o', n', e', h1⟩
          · exact .inl (Nat.le_trans U3.len h1)
          · exact U3.frm _ _ _ _ h1
      rw [allN, if_neg hE, Nat.add_zero] at a1
      rw [allE, if_neg hE] at a2
      rw [allL, if_neg hE] at a3
      try simp -implicitDefEqProofs (disch := (try simp only [sl]); try omega) only [sm,QJ,Qj,Qi,Qq,QC,Qz,bd,QF,look,aput,Qm,QA,ty,↓reduceIte,Nat.reduceEqDiff,Nat.reduceAdd,Nat.reduceSub,Nat.reduceMul,Int.reduceLT,Int.reduceLE,Int.reduceNeg,Int.reduceToNat,reduceCtorEq,Nat.reduceBEq,Nat.reduceBNe,Qk,Qe,Value.cells,am,mm,keep, f_, fo_, aint, lv, hcs2, hcc, hlen, ul, uc, ut, uo, zl, zU, e0]
      try (refine hK_ _ _ ?_; clear hK_ K_; repeat first | refine QL ?_ | refine QM ?_)
      iterate 1 ((repeat first | refine Qo ?_ | refine Qn ?_); (first | (refine QK (by kernel_rfl) ?_; intro K_ hK_; simp -implicitDefEqProofs (disch := (try simp only [sl]); try omega) only [sm,QJ,Qj,Qi,Qq,QC,bd,look,aput,QI,abin,anil,ty,↓reduceIte,Nat.reduceEqDiff,Nat.reduceAdd,Nat.reduceSub,Nat.reduceMul,Int.reduceLT,Int.reduceLE,Int.reduceNeg,Int.reduceToNat,reduceCtorEq,Nat.reduceBEq,Nat.reduceBNe,Qk,Qe,Value.cells,am,mm,keep, f_, fo_, aint, lv, hcs2, hcc, hlen, ul, uc, ut, uo, zl, zU, e0]; refine hK_ _ _ ?_; clear hK_ K_; repeat first | refine QL ?_ | refine QM ?_)))
      repeat first | refine Qo ?_ | refine Qn ?_
      refine awp_if true rfl (by first | (simp only [aeval_tmp, look, ↓reduceIte, Nat.reduceEqDiff]; try rfl) | rfl) (fun _ => ?_) (fun h => absurd h (by decide))
      iterate 1 ((repeat first | refine Qo ?_ | refine Qn ?_); (first | (refine QK (by kernel_rfl) ?_; intro K_ hK_; simp -implicitDefEqProofs (disch := (try simp only [sl]); try omega) only [sm,QJ,Qj,Qi,Qq,QC,bd,look,aput,ty,↓reduceIte,Nat.reduceEqDiff,Nat.reduceAdd,Nat.reduceSub,Nat.reduceMul,Int.reduceLT,Int.reduceLE,Int.reduceNeg,Int.reduceToNat,reduceCtorEq,Nat.reduceBEq,Nat.reduceBNe,Qk,Qe,Value.cells,am,mm,keep, f_, fo_, aint, lv, hcs2, hcc, hlen, ul, uc, ut, uo, zl, zU]; refine hK_ _ _ ?_; clear hK_ K_; repeat first | refine QL ?_ | refine QM ?_)))
      first | refine awp_ret ?_ | skip
      show ∃ v, aresults Try.prog Try.f20 _ _ = some v ∧ _
      rw [aresults_2 (r := .tmp 4) (s := .tmp 5) (by kernel_rfl)]
      simp -implicitDefEqProofs (disch := (try simp only [sl]); try omega) only [aresult, Option.some.injEq, exists_eq_left', sm,Qj,Qi,Qq,QC,Qz,bd,QF,look,aput,QB,Qf,QA,ty,↓reduceIte,Nat.reduceEqDiff,Nat.reduceAdd,Nat.reduceSub,Nat.reduceMul,Int.reduceLT,Int.reduceLE,Int.reduceNeg,Int.reduceToNat,reduceCtorEq,Nat.reduceBEq,Nat.reduceBNe,Qk,Qe,Value.cells,am,mm,keep, f_, fo_, aint, lv, hcs2, hcc, hlen, ul, uc, ut, uo, zl, zU]
      rw [a1, a2, a3]
      exact ⟨rfl, _, U5⟩
  obtain rfl : i = l.length := by omega
  rw [List.drop_length] at a1 a2 a3
  iterate 1 ((repeat first | refine Qo ?_ | refine Qn ?_); (first | (refine QK (by kernel_rfl) ?_; intro K_ hK_; simp -implicitDefEqProofs (disch := (try simp only [sl]); try omega) only [sm,QJ,Qj,Qi,Qq,QC,bd,look,aput,QI,abin,anil,ty,↓reduceIte,Nat.reduceEqDiff,Nat.reduceAdd,Nat.reduceSub,Nat.reduceMul,Int.reduceLT,Int.reduceLE,Int.reduceNeg,Int.reduceToNat,reduceCtorEq,Nat.reduceBEq,Nat.reduceBNe,Qk,Qe,Value.cells,am,mm,keep, f_, aint, lv, hlt]; refine hK_ _ _ ?_; clear hK_ K_; repeat first | refine QL ?_ | refine QM ?_)))
  repeat first | refine Qo ?_ | refine Qn ?_
  refine awp_if false rfl (by first | (simp only [aeval_tmp, look, ↓reduceIte, Nat.reduceEqDiff]; try rfl) | rfl) (fun h => absurd h (by decide)) (fun _ => ?_)
  iterate 2 ((repeat first | refine Qo ?_ | refine Qn ?_); (first | (refine QK (by kernel_rfl) ?_; intro K_ hK_; simp -implicitDefEqProofs (disch := (try simp only [sl]); try omega) only [sm,QJ,Qj,Qi,Qq,QC,bd,look,aput,ty,↓reduceIte,Nat.reduceEqDiff,Nat.reduceAdd,Nat.reduceSub,Nat.reduceMul,Int.reduceLT,Int.reduceLE,Int.reduceNeg,Int.reduceToNat,reduceCtorEq,Nat.reduceBEq,Nat.reduceBNe,Qk,Qe,Value.cells,am,mm,keep, f_, aint, lv]; refine hK_ _ _ ?_; clear hK_ K_; repeat first | refine QL ?_ | refine QM ?_) | (refine awp_exit ?_; (repeat first | refine aThen_exit ?_ | refine aIn_out rfl ?_); refine aIn_here ?_; repeat first | refine QL ?_ | refine QM ?_)))
  first | refine awp_ret ?_ | skip
  show ∃ v, aresults Try.prog Try.f20 _ _ = some v ∧ _
  rw [aresults_2 (r := .tmp 4) (s := .tmp 5) (by kernel_rfl)]
  simp -implicitDefEqProofs (disch := (try simp only [sl]); try omega) only [aresult, Option.some.injEq, exists_eq_left', sm,Qj,Qi,Qq,QC,Qz,bd,QF,look,aput,QB,Qf,QA,ty,↓reduceIte,Nat.reduceEqDiff,Nat.reduceAdd,Nat.reduceSub,Nat.reduceMul,Int.reduceLT,Int.reduceLE,Int.reduceNeg,Int.reduceToNat,reduceCtorEq,Nat.reduceBEq,Nat.reduceBNe,Qk,Qe,Value.cells,am,mm,keep, f_, aint, lv]
  rw [a1, a2, a3]
  exact ⟨rfl, _, U2⟩
end Go.Proofs.Ytldfnfpinemedaa
