/- The statement LedgerAsks: walked. -/
import Derived.Test.YtldfnfpinemedaaLmw
namespace Go.Proofs.Ytldfnfpinemedaa
open Go Go.RowKit
--hide
set_option linter.unusedSimpArgs false
set_option linter.unusedVariables false
set_option maxRecDepth 4000
abbrev stepL (b : Int) (s : Int × Bool) (u : Us) : Int × Bool := if u.2 = b then (u.1, true) else s
theorem last_exp1 (r : Rn) (b : Int) (s : Int × Bool) : ∀ k : Nat, ((List.range k).map fun (i : Nat) => (r.1, r.2.1 + (i : Int))).foldl (stepL b) s = if r.2.1 ≤ b ∧ b < r.2.1 + (k : Int) then (r.1, true) else s
  | 0 => by
    rw [if_neg (by omega)]
    rfl
  | k + 1 => by
    rw [List.range_succ, List.map_append, List.foldl_append, last_exp1 r b s k]
    show stepL b _ (r.1, r.2.1 + (k : Int)) = _
    unfold stepL
    by_cases h1 : r.2.1 + (k : Int) = b
    · rw [if_pos h1, if_pos (by omega)]
    · rw [if_neg h1]
      by_cases h2 : r.2.1 ≤ b ∧ b < r.2.1 + (k : Int)
      · rw [if_pos h2, if_pos (by omega)]
      · rw [if_neg h2, if_neg (by omega)]
theorem last_exp : ∀ (L : List Rn) (b : Int) (s : Int × Bool), (∀ r ∈ L, okR r) → (expR L).foldl (stepL b) s = L.foldl (fun s r => if hitR b r then (r.1, true) else s) s
  | [], _, _, _ => rfl
  | r :: t, b, s, hc => by
    have hr : 1 ≤ r.2.2 := (hc r List.mem_cons_self).2.2.1
    rw [expR_cons, List.foldl_append, List.foldl_cons, exp1, last_exp1 r b s]
    have e : (r.2.1 ≤ b ∧ b < r.2.1 + ((r.2.2.toNat : Nat) : Int)) ↔ hitR b r := by unfold hitR endR; omega
    have e2 : (if r.2.1 ≤ b ∧ b < r.2.1 + ((r.2.2.toNat : Nat) : Int) then (r.1, true) else s) = (if hitR b r then (r.1, true) else s) := by
      by_cases h : hitR b r
      · rw [if_pos h, if_pos (e.2 h)]
      · rw [if_neg h, if_neg (fun k => h (e.1 k))]
    rw [e2]
    exact last_exp t b _ fun x hx => hc x (List.mem_cons_of_mem _ hx)
theorem CI.last {L : List Rn} {r : List Us} (h : CI L r) (b : Int) : lastL L b = lastU r b := by
  rw [h.eq]
  exact (last_exp L b (0, false) h.1.1).symm
theorem CI.of {L : List Rn} {r : List Us} (h : CI L r) (e : Int) : ofL L e = ofU r e := by
  rw [h.eq]; rfl
abbrev f1 (x : Int) : List Value := [iv x]
theorem f1_hl (l : List Int) : ∀ x ∈ l, (f1 x).length = 1 := fun _ _ => rfl
theorem flI (l : List Int) : (l.map f1).flatten = l.map iv := by
  induction l with
  | nil => rfl
  | cons a t ih => rw [List.map_cons, List.flatten_cons, ih]; rfl
theorem SLn.lt {H : AH} {v : Value} {n : Nat} {cells : List Value} (h : SLn H v n cells) (hn : n ≠ 0) : ∀ q o m e, v = .slice (some ⟨q, o, .none⟩) m e → q < H.length := by
  intro q o m e k
  rcases h with ⟨_, _, h⟩ | ⟨g, o', e', hv, h⟩
  · exact absurd h hn
  · rcases h with ⟨_, h⟩ | ⟨cs, hc, _⟩
    · exact absurd h hn
    · rw [hv] at k; cases k; exact cells_lt hc
theorem SLn.keepb {H H' : AH} {v : Value} {n : Nat} {cells : List Value} (h : SLn H v n cells) (hk : ∀ q o m e, v = .slice (some ⟨q, o, .none⟩) m e → ∀ y, H[q]? = some y → H'[q]? = some y) : SLn H' v n cells := by
  rcases h with h | ⟨g, o', e', hv, h⟩
  · exact .inl h
  · refine .inr ⟨g, o', e', hv, ?_⟩
    rcases h with h | ⟨cs, hc, h2⟩
    · exact .inl h
    · refine .inr ⟨cs, ?_, h2⟩
      rcases AH.cells_cases hc with k | k
      · exact AH.cells_own (hk _ _ _ _ hv _ k)
      · exact AH.cells_ro (hk _ _ _ _ hv _ k)
theorem SLn.nilk {H H' : AH} {v : Value} (h : SLn H v 0 []) : SLn H' v 0 [] := by
  rcases h with h | ⟨g, o', e', hv, h⟩
  · exact .inl h
  · exact .inr ⟨g, o', e', hv, .inl ⟨rfl, rfl⟩⟩
set_option maxHeartbeats 16000000 in
theorem leasks_law : ALaw Try.prog 8 [22, 29] := by
  intro H vs hro hlen hv
  match vs, hlen with
  | [v0, v1], _ =>
  obtain ⟨l, hl, hm, hr⟩ := uses_arg (hv 0 _ v0 rfl rfl)
  obtain ⟨u0, rfl, hu0⟩ := use_arg (hv 1 _ v1 rfl rfl)
  have lv := alen_slnU (P := Try.prog) (T := 22) (by simp only [ty]) hl
  have hbb : ∀ n : Bool, (n != n) = false := fun n => by simp
  have hnn : ∀ n : Int, (n != n) = false := fun n => by simp
  have hii : ∀ n : Int, (n == n) = true := fun n => by simp
  have hBB : ∀ n : Bool, (n == n) = true := fun n => by simp
  have vl := usc_length u0
  have vc := usc_cellv u0
  have vt := usc_take u0
  have v0' := usc_0 u0
  have v1' := usc_1 u0
  clear hv
  have fo_ : True := trivial
  have N_ := Now.start H
  have f_ := N_.has
  simp only [Has] at f_
  refine acalls_of_body Try.func8 rfl Try.ntmps8 (by simp) ?_
  simp only [argsT, Nat.reduceAdd]
  iterate 1 ((repeat first | refine Qo ?_ | refine Qn ?_); (first | (refine QK (by kernel_rfl) ?_; intro K_ hK_; simp -implicitDefEqProofs (disch := (try simp only [sl]); try omega) only [sm,QJ,Qj,Qi,Qq,QC,bd,look,aput,ty,↓reduceIte,Nat.reduceEqDiff,Nat.reduceAdd,Nat.reduceSub,Nat.reduceMul,Int.reduceLT,Int.reduceLE,Int.reduceNeg,Int.reduceToNat,reduceCtorEq,Nat.reduceBEq,Nat.reduceBNe,Qk,Qe,Value.cells,am,mm,keep, f_, fo_, aint, lv, hbb, hnn, vl, vc, vt]; refine hK_ _ _ ?_; clear hK_ K_; repeat first | refine QL ?_ | refine QM ?_)))
  first | refine AWp.snap8 N_ ?_ | refine AWp.snap7 N_ ?_ | refine AWp.snap6 N_ ?_ | refine AWp.snap5 N_ ?_ | refine AWp.snap4 N_ ?_ | refine AWp.snap3 N_ ?_ | refine AWp.snap2 N_ ?_ | refine AWp.snap1 N_ ?_
  clear fo_; have fo_ := f_; clear f_ N_; intro H0 xH0 lH0 N_
  have f_ := N_.has
  simp only [Has] at f_
  have x0 : Ext H H0 := xH0
  have kb0 := f_.1.2.1
  (repeat first | refine Qo ?_ | refine Qn ?_); refine QK (by kernel_rfl) ?_; intro K_ hK_; simp -implicitDefEqProofs (disch := (try simp only [sl]); try omega) only [sm,QJ,Qj,Qi,Qq,QC,bd,look,aput,Qm,ty,↓reduceIte,Nat.reduceEqDiff,Nat.reduceAdd,Nat.reduceSub,Nat.reduceMul,Int.reduceLT,Int.reduceLE,Int.reduceNeg,Int.reduceToNat,reduceCtorEq,Nat.reduceBEq,Nat.reduceBNe,Qk,Qe,Value.cells,am,mm,keep, f_, fo_, aint, lv, hbb, hnn, vl, vc, vt]
  refine ACalls.mono (lfar_calls v0 l H0 (hl.mono x0)) ?_
  rintro _ G ⟨rfl, rfl⟩
  by_cases hfar : (l.length : Int) > 100
  · try simp -implicitDefEqProofs (disch := (try simp only [sl]); try omega) only [sm,QJ,Qj,Qi,Qq,QC,bd,look,aput,Qm,ty,↓reduceIte,Nat.reduceEqDiff,Nat.reduceAdd,Nat.reduceSub,Nat.reduceMul,Int.reduceLT,Int.reduceLE,Int.reduceNeg,Int.reduceToNat,reduceCtorEq,Nat.reduceBEq,Nat.reduceBNe,Qk,Qe,Value.cells,am,mm,keep, f_, fo_, aint, lv, hbb, hnn, vl, vc, vt, decide_eq_true hfar]
    try (refine hK_ _ _ ?_; clear hK_ K_; repeat first | refine QL ?_ | refine QM ?_)
    repeat first | refine Qo ?_ | refine Qn ?_
    refine awp_if true rfl (by first | (simp only [aeval_tmp, look, ↓reduceIte, Nat.reduceEqDiff]; try rfl) | rfl) (fun _ => ?_) (fun h => absurd h (by decide))
    (repeat first | refine Qo ?_ | refine Qn ?_); refine QK (by kernel_rfl) ?_; intro K_ hK_; simp -implicitDefEqProofs (disch := (try simp only [sl]); try omega) only [sm,QJ,Qj,Qi,Qq,QC,bd,look,aput,Qm,ty,↓reduceIte,Nat.reduceEqDiff,Nat.reduceAdd,Nat.reduceSub,Nat.reduceMul,Int.reduceLT,Int.reduceLE,Int.reduceNeg,Int.reduceToNat,reduceCtorEq,Nat.reduceBEq,Nat.reduceBNe,Qk,Qe,Value.cells,am,mm,keep, f_, fo_, aint, lv, hbb, hnn, vl, vc, vt]
    refine ACalls.mono (lalive_calls _) ?_
    rintro _ H3 ⟨rfl, e3⟩
    try simp -implicitDefEqProofs (disch := (try simp only [sl]); try omega) only [sm,QJ,Qj,Qi,Qq,QC,bd,look,aput,Qm,ty,↓reduceIte,Nat.reduceEqDiff,Nat.reduceAdd,Nat.reduceSub,Nat.reduceMul,Int.reduceLT,Int.reduceLE,Int.reduceNeg,Int.reduceToNat,reduceCtorEq,Nat.reduceBEq,Nat.reduceBNe,Qk,Qe,Value.cells,am,mm,keep, f_, fo_, aint, lv, hbb, hnn, vl, vc, vt]
    try (refine hK_ _ _ ?_; clear hK_ K_; repeat first | refine QL ?_ | refine QM ?_)
    first | refine awp_ret ?_ | skip
    show ∃ v, aresults Try.prog Try.f8 _ _ = some v ∧ _
    rw [aresults_1 (r := .tmp 4) (by kernel_rfl)]
    simp -implicitDefEqProofs (disch := (try simp only [sl]); try omega) only [aresult, Option.some.injEq, exists_eq_left', sm,Qj,Qi,Qq,QC,Qz,bd,QF,look,aput,QB,Qf,QA,ty,↓reduceIte,Nat.reduceEqDiff,Nat.reduceAdd,Nat.reduceSub,Nat.reduceMul,Int.reduceLT,Int.reduceLE,Int.reduceNeg,Int.reduceToNat,reduceCtorEq,Nat.reduceBEq,Nat.reduceBNe,Qk,Qe,Value.cells,am,mm,keep, f_, fo_, aint, lv, hbb, hnn, vl, vc, vt]
  try simp -implicitDefEqProofs (disch := (try simp only [sl]); try omega) only [sm,QJ,Qj,Qi,Qq,QC,bd,look,aput,Qm,ty,↓reduceIte,Nat.reduceEqDiff,Nat.reduceAdd,Nat.reduceSub,Nat.reduceMul,Int.reduceLT,Int.reduceLE,Int.reduceNeg,Int.reduceToNat,reduceCtorEq,Nat.reduceBEq,Nat.reduceBNe,Qk,Qe,Value.cells,am,mm,keep, f_, fo_, aint, lv, hbb, hnn, vl, vc, vt, decide_eq_false hfar]
  try (refine hK_ _ _ ?_; clear hK_ K_; repeat first | refine QL ?_ | refine QM ?_)
  repeat first | refine Qo ?_ | refine Qn ?_
  refine awp_if false rfl (by first | (simp only [aeval_tmp, look, ↓reduceIte, Nat.reduceEqDiff]; try rfl) | rfl) (fun h => absurd h (by decide)) (fun _ => ?_)
  iterate 1 ((repeat first | refine Qo ?_ | refine Qn ?_); (first | (refine QK (by kernel_rfl) ?_; intro K_ hK_; simp -implicitDefEqProofs (disch := (try simp only [sl]); try omega) only [sm,QJ,Qj,Qi,Qq,QC,bd,look,aput,Qm,ty,↓reduceIte,Nat.reduceEqDiff,Nat.reduceAdd,Nat.reduceSub,Nat.reduceMul,Int.reduceLT,Int.reduceLE,Int.reduceNeg,Int.reduceToNat,reduceCtorEq,Nat.reduceBEq,Nat.reduceBNe,Qk,Qe,Value.cells,am,mm,keep, f_, fo_, aint, lv, hbb, hnn, vl, vc, vt]; refine hK_ _ _ ?_; clear hK_ K_; repeat first | refine QL ?_ | refine QM ?_) | (refine awp_skip ?_; repeat first | refine QL ?_ | refine QM ?_)))
  (repeat first | refine Qo ?_ | refine Qn ?_); refine QK (by kernel_rfl) ?_; intro K_ hK_; simp -implicitDefEqProofs (disch := (try simp only [sl]); try omega) only [sm,QJ,Qj,Qi,Qq,QC,bd,look,aput,Qm,ty,↓reduceIte,Nat.reduceEqDiff,Nat.reduceAdd,Nat.reduceSub,Nat.reduceMul,Int.reduceLT,Int.reduceLE,Int.reduceNeg,Int.reduceToNat,reduceCtorEq,Nat.reduceBEq,Nat.reduceBNe,Qk,Qe,Value.cells,am,mm,keep, f_, fo_, aint, lv, hbb, hnn, vl, vc, vt]
  refine ACalls.mono (new_calls G) ?_
  rintro _ H1 ⟨rfl, h1, e1, l1⟩
  try simp -implicitDefEqProofs (disch := (try simp only [sl]); try omega) only [sm,QJ,Qj,Qi,Qq,QC,bd,look,aput,Qm,ty,↓reduceIte,Nat.reduceEqDiff,Nat.reduceAdd,Nat.reduceSub,Nat.reduceMul,Int.reduceLT,Int.reduceLE,Int.reduceNeg,Int.reduceToNat,reduceCtorEq,Nat.reduceBEq,Nat.reduceBNe,Qk,Qe,Value.cells,am,mm,keep, f_, fo_, aint, lv, hbb, hnn, vl, vc, vt]
  try (refine hK_ _ _ ?_; clear hK_ K_; repeat first | refine QL ?_ | refine QM ?_)
  iterate 2 ((repeat first | refine Qo ?_ | refine Qn ?_); (first | (refine QK (by kernel_rfl) ?_; intro K_ hK_; simp -implicitDefEqProofs (disch := (try simp only [sl]); try omega) only [sm,QJ,Qj,Qi,Qq,QC,bd,look,aput,QI,abin,anil,ty,↓reduceIte,Nat.reduceEqDiff,Nat.reduceAdd,Nat.reduceSub,Nat.reduceMul,Int.reduceLT,Int.reduceLE,Int.reduceNeg,Int.reduceToNat,reduceCtorEq,Nat.reduceBEq,Nat.reduceBNe,Qk,Qe,Value.cells,am,mm,keep, f_, fo_, aint, lv, hbb, hnn, vl, vc, vt]; refine hK_ _ _ ?_; clear hK_ K_; repeat first | refine QL ?_ | refine QM ?_)))
  repeat first | refine Qo ?_ | refine Qn ?_
  refine awp_if false rfl (by first | (simp only [aeval_tmp, look, ↓reduceIte, Nat.reduceEqDiff]; try rfl) | rfl) (fun h => absurd h (by decide)) (fun _ => ?_)
  iterate 2 ((repeat first | refine Qo ?_ | refine Qn ?_); (first | (refine QK (by kernel_rfl) ?_; intro K_ hK_; simp -implicitDefEqProofs (disch := (try simp only [sl]); try omega) only [sm,QJ,Qj,Qi,Qq,QC,bd,look,aput,ty,↓reduceIte,Nat.reduceEqDiff,Nat.reduceAdd,Nat.reduceSub,Nat.reduceMul,Int.reduceLT,Int.reduceLE,Int.reduceNeg,Int.reduceToNat,reduceCtorEq,Nat.reduceBEq,Nat.reduceBNe,Qk,Qe,Value.cells,am,mm,keep, f_, fo_, aint, lv, hbb, hnn, vl, vc, vt]; refine hK_ _ _ ?_; clear hK_ K_; repeat first | refine QL ?_ | refine QM ?_) | (refine awp_skip ?_; repeat first | refine QL ?_ | refine QM ?_)))
  repeat first | refine Qo ?_ | refine Qn ?_
  refine awp_forK [0, 3, 5, 26, 27] (fun x : Nat × Value × List Rn × Value × List Us × AH => [(28, I64 x.1), (6, x.2.2.2.1)]) (fun x : Nat × Value × List Rn × Value × List Us × AH => x.2.2.2.2.2) (fun x : Nat × Value × List Rn × Value × List Us × AH => x.1 ≤ l.length ∧ LdI G.length G.length x.2.2.2.2.2 x.2.1 x.2.2.1 ∧ CI x.2.2.1 x.2.2.2.2.1 ∧ SLn x.2.2.2.2.2 x.2.2.2.1 x.2.2.2.2.1.length (flU x.2.2.2.2.1) ∧ (x.2.2.2.2.1 = [] ∨ ∀ q o n e, x.2.2.2.1 = .slice (some ⟨q, o, none⟩) n e → q ≠ G.length ∧ ∀ o n e, x.2.1 ≠ .slice (some ⟨q, o, none⟩) n e) ∧ Ext G x.2.2.2.2.2 ∧ x.2.2.2.2.1.length ≤ x.1 ∧ ∀ u ∈ x.2.2.2.2.1, rngU u ∧ okU u) (fun x : Nat × Value × List Rn × Value × List Us × AH => l.length - x.1) ((0, .slice none 0 0, [], .slice none 0 0, [], H1)) (⟨Nat.zero_le _, h1, CI.nil, .inl ⟨rfl, rfl, rfl⟩, .inl rfl, e1, Nat.le_refl _, fun u hu => absurd hu List.not_mem_nil⟩) (by repeat first | exact Forgets.nil | refine Forgets.cons (by first | (simp only [look, ↓reduceIte, Nat.reduceEqDiff]; done) | (simp only [look, ↓reduceIte, Nat.reduceEqDiff]; rfl) | simp [look]) ?_) rfl ?_
  rintro ⟨i, w, L, rv, r, H2⟩ ⟨hi, d2, ci, sr, sep, x2, hrl, hru⟩
  simp only [] at hi d2 ci sr sep x2 hrl hru ⊢
  clear f_ fo_ N_
  have N_ : Now G H2 [] := ⟨x2, trivial⟩
  have f_ := N_.has
  simp only [Has] at f_
  have fo_ := True.intro
  by_cases hlt : i < l.length
  · obtain ⟨g, o, e, cs, hve, hcs, hcc, hlen⟩ := (hl.mono x0).at (usc_hl l) i hlt
    cases hve
    have hui := hr _ (List.getElem_mem hlt)
    generalize l[i] = u at *
    have hcs2 := x2.cells hcs
    have ul := usc_length u
    have uc := usc_cellv u
    have ut := usc_take u
    have uo := usc_ovr (0, 0) u
    have zl := usc_length (0, 0)
    have hii2 : IntKind.i64.wrap ((i : Int) + 1) = (i : Int) + 1 := wi64 _ (by omega) (by omega)
    have hrr : ∀ x ∈ r, rngU x := fun x hx => (hru x hx).1
    have hLf := ci.few
    iterate 1 ((repeat first | refine Qo ?_ | refine Qn ?_); (first | (refine QK (by kernel_rfl) ?_; intro K_ hK_; simp -implicitDefEqProofs (disch := (try simp only [sl]); try omega) only [sm,QJ,Qj,Qi,Qq,QC,bd,look,aput,QI,abin,anil,ty,↓reduceIte,Nat.reduceEqDiff,Nat.reduceAdd,Nat.reduceSub,Nat.reduceMul,Int.reduceLT,Int.reduceLE,Int.reduceNeg,Int.reduceToNat,reduceCtorEq,Nat.reduceBEq,Nat.reduceBNe,Qk,Qe,Value.cells,am,mm,keep, f_, fo_, aint, lv, hcs2, hcc, hlen, ul, uc, ut, uo, zl, zUr, hlt]; refine hK_ _ _ ?_; clear hK_ K_; repeat first | refine QL ?_ | refine QM ?_)))
    repeat first | refine Qo ?_ | refine Qn ?_
    refine awp_if true rfl (by first | (simp only [aeval_tmp, look, ↓reduceIte, Nat.reduceEqDiff]; try rfl) | rfl) (fun _ => ?_) (fun h => absurd h (by decide))
    iterate 2 ((repeat first | refine Qo ?_ | refine Qn ?_); (first | (refine QK (by kernel_rfl) ?_; intro K_ hK_; simp -implicitDefEqProofs (disch := (try simp only [sl]); try omega) only [sm,QJ,Qj,Qi,Qq,QC,Qz,bd,QF,look,aput,Qm,Qb,QA,ty,↓reduceIte,Nat.reduceEqDiff,Nat.reduceAdd,Nat.reduceSub,Nat.reduceMul,Int.reduceLT,Int.reduceLE,Int.reduceNeg,Int.reduceToNat,reduceCtorEq,Nat.reduceBEq,Nat.reduceBNe,Qk,Qe,Value.cells,am,mm,keep, f_, fo_, aint, lv, hcs2, hcc, hlen, ul, uc, ut, uo, zl, zUr, hlt]; refine hK_ _ _ ?_; clear hK_ K_; repeat first | refine QL ?_ | refine QM ?_) | (refine awp_skip ?_; repeat first | refine QL ?_ | refine QM ?_)))
    first | refine AWp.snap8 N_ ?_ | refine AWp.snap7 N_ ?_ | refine AWp.snap6 N_ ?_ | refine AWp.snap5 N_ ?_ | refine AWp.snap4 N_ ?_ | refine AWp.snap3 N_ ?_ | refine AWp.snap2 N_ ?_ | refine AWp.snap1 N_ ?_
    clear fo_; have fo_ := f_; clear f_ N_; intro H3 xH3 lH3 N_
    have f_ := N_.has
    simp only [Has] at f_
    (repeat first | refine Qo ?_ | refine Qn ?_); refine QK (by kernel_rfl) ?_; intro K_ hK_; simp -implicitDefEqProofs (disch := (try simp only [sl]); try omega) only [sm,QJ,Qj,Qi,Qq,QC,Qz,bd,QF,look,aput,Qm,QA,Qh,ty,↓reduceIte,Nat.reduceEqDiff,Nat.reduceAdd,Nat.reduceSub,Nat.reduceMul,Int.reduceLT,Int.reduceLE,Int.reduceNeg,Int.reduceToNat,reduceCtorEq,Nat.reduceBEq,Nat.reduceBNe,Qk,Qe,Value.cells,am,mm,keep, f_, fo_, aint, lv, hcs2, hcc, hlen, ul, uc, ut, uo, zl, zUr]
    refine ACalls.mono (refadd_calls rv r u H3 (sr.mono xH3) (by omega) hrr hui) ?_
    rintro _ H4 ⟨⟨x, rfl, sx, hxv⟩, e4⟩
    replace N_ := N_.grow e4
    clear fo_; have fo_ := f_; clear f_
    have f_ := N_.has
    simp only [Has] at f_
    try simp -implicitDefEqProofs (disch := (try simp only [sl]); try omega) only [sm,QJ,Qj,Qi,Qq,QC,Qz,bd,QF,look,aput,Qm,QA,Qh,ty,↓reduceIte,Nat.reduceEqDiff,Nat.reduceAdd,Nat.reduceSub,Nat.reduceMul,Int.reduceLT,Int.reduceLE,Int.reduceNeg,Int.reduceToNat,reduceCtorEq,Nat.reduceBEq,Nat.reduceBNe,Qk,Qe,Value.cells,am,mm,keep, f_, fo_, aint, hbb, hnn, ul, uc, ut]
    try (refine hK_ _ _ ?_; clear hK_ K_; repeat first | refine QL ?_ | refine QM ?_)
    (repeat first | refine Qo ?_ | refine Qn ?_); refine QK (by kernel_rfl) ?_; intro K_ hK_; simp -implicitDefEqProofs (disch := (try simp only [sl]); try omega) only [sm,QJ,Qj,Qi,Qq,QC,Qz,bd,QF,look,aput,Qm,QA,ty,↓reduceIte,Nat.reduceEqDiff,Nat.reduceAdd,Nat.reduceSub,Nat.reduceMul,Int.reduceLT,Int.reduceLE,Int.reduceNeg,Int.reduceToNat,reduceCtorEq,Nat.reduceBEq,Nat.reduceBNe,Qk,Qe,Value.cells,am,mm,keep, f_, fo_, aint, hbb, hnn, ul, uc, ut]
    have x34 : Ext H2 H4 := xH3.trans e4
    refine ACalls.mono (add_calls G.length G.length w L u H4 (d2.mono x34) (by omega) ci.1 hui.1 (by have := x2.length; have := x34.length; omega)) ?_
    rintro _ H7 ⟨rfl, w7, U7⟩
    have hEE : adE L u = rE r u := by
      unfold adE rE
      by_cases ho : okU u
      · rw [if_pos ho, if_pos ho]
        by_cases hm : memR L u
        · rw [if_pos hm, if_pos ((ci.2.2 u).2 hm)]
        · rw [if_neg hm, if_neg (fun k => hm ((ci.2.2 u).1 k))]
      · rw [if_neg ho, if_neg ho]
    have d4 := d2.mono x34
    have x7 : Ext G H7 := U7.keep d4 (x2.trans x34) (Nat.le_refl _)
    have ci7 : CI (adL L u) (rL r u) := by
      unfold adL rL
      rw [← hEE]
      by_cases hE : adE L u = 0
      · rw [if_pos hE, if_pos hE]; exact (ci.adl hui.1 hE).1
      · rw [if_neg hE, if_neg hE]; exact ci
    have hrl7 : (rL r u).length ≤ i + 1 := by
      unfold rL; split
      · rw [insU_len]; omega
      · omega
    have hru7 : ∀ y ∈ rL r u, rngU y ∧ okU y := by
      intro y hy
      unfold rL at hy
      split at hy
      · rename_i hE
        rcases mem_insU.1 hy with rfl | hy
        · exact ⟨hui, (ci.adl hui.1 (hEE.trans hE)).2.2⟩
        · exact hru y hy
      · exact hru y hy
    have hxsep : rL r u = [] ∨ ∀ q o n e, x = .slice (some ⟨q, o, none⟩) n e → q < H4.length ∧ q ≠ G.length ∧ ∀ o n e, w ≠ .slice (some ⟨q, o, none⟩) n e := by
      by_cases hem : rL r u = []
      · exact .inl hem
      · refine .inr fun q o n e k => ?_
        have hq6 := sx.lt (fun h => hem (List.eq_nil_of_length_eq_zero h)) _ _ _ _ k
        rcases hxv with ⟨rfl, hrr'⟩ | hnew
        · rcases sep with sep | sep
          · exact absurd (hrr'.trans sep) hem
          · obtain ⟨s1, s2⟩ := sep _ _ _ _ k
            exact ⟨hq6, s1, s2⟩
        · have hq3 := hnew _ _ _ _ k
          refine ⟨hq6, by have := got_lt d2.1; have := xH3.length; omega, fun o n e k' => ?_⟩
          have := (d2.at _ _ _ _ k').1
          have := xH3.length
          omega
    have sx7 : SLn H7 x (rL r u).length (flU (rL r u)) := by
      rcases hxsep with hem | hs
      · rw [hem] at sx ⊢; exact sx.nilk
      · refine sx.keepb fun q o m e k y hy => ?_
        obtain ⟨_, s2, s3⟩ := hs _ _ _ _ k
        exact U7.only q y s2 s3 hy
    have sep7 : rL r u = [] ∨ ∀ q o n e, x = .slice (some ⟨q, o, none⟩) n e → q ≠ G.length ∧ ∀ o n e, w7 ≠ .slice (some ⟨q, o, none⟩) n e := by
      rcases hxsep with hem | hs
      · exact .inl hem
      · refine .inr fun q o n e k => ?_
        obtain ⟨s1, s2, s3⟩ := hs _ _ _ _ k
        refine ⟨s2, fun o' n' e' k' => ?_⟩
        rcases U7.frm _ _ _ _ k' with h1 | ⟨o2, n2, e2, h1⟩
        · omega
        · exact s3 _ _ _ h1
    have d7 := U7.ld
    clear f_ fo_ N_
    have f_ := True.intro
    have fo_ := True.intro
    generalize adL L u = L7 at *
    generalize rL r u = r7 at *
    try simp -implicitDefEqProofs (disch := (try simp only [sl]); try omega) only [sm,QJ,Qj,Qi,Qq,QC,Qz,bd,QF,look,aput,Qm,QA,ty,↓reduceIte,Nat.reduceEqDiff,Nat.reduceAdd,Nat.reduceSub,Nat.reduceMul,Int.reduceLT,Int.reduceLE,Int.reduceNeg,Int.reduceToNat,reduceCtorEq,Nat.reduceBEq,Nat.reduceBNe,Qk,Qe,Value.cells,am,mm,keep, f_, fo_, aint, lv]
    try (refine hK_ _ _ ?_; clear hK_ K_; repeat first | refine QL ?_ | refine QM ?_)
    iterate 1 ((repeat first | refine Qo ?_ | refine Qn ?_); (first | (refine QK (by kernel_rfl) ?_; intro K_ hK_; simp -implicitDefEqProofs (disch := (try simp only [sl]); try omega) only [sm,QJ,Qj,Qi,Qq,QC,bd,look,aput,QI,abin,anil,ty,↓reduceIte,Nat.reduceEqDiff,Nat.reduceAdd,Nat.reduceSub,Nat.reduceMul,Int.reduceLT,Int.reduceLE,Int.reduceNeg,Int.reduceToNat,reduceCtorEq,Nat.reduceBEq,Nat.reduceBNe,Qk,Qe,Value.cells,am,mm,keep, f_, fo_, aint, lv, hii2]; refine hK_ _ _ ?_; clear hK_ K_; repeat first | refine QL ?_ | refine QM ?_)))
    refine ⟨(i + 1, w7, L7, x, r7, H7), ⟨by simp only []; omega, d7, ci7, sx7, sep7, x7, hrl7, hru7⟩, (by repeat first | exact Forgets.nil | refine Forgets.cons (by first | (simp only [look, ↓reduceIte, Nat.reduceEqDiff]; done) | (simp only [look, ↓reduceIte, Nat.reduceEqDiff]; rfl) | simp [look, hii2]) ?_), ?_⟩
    first | omega | exact ⟨rfl, by omega⟩ | exact ⟨rfl, by simp only []; omega⟩ | (simp only []; omega)
  iterate 1 ((repeat first | refine Qo ?_ | refine Qn ?_); (first | (refine QK (by kernel_rfl) ?_; intro K_ hK_; simp -implicitDefEqProofs (disch := (try simp only [sl]); try omega) only [sm,QJ,Qj,Qi,Qq,QC,bd,look,aput,QI,abin,anil,ty,↓reduceIte,Nat.reduceEqDiff,Nat.reduceAdd,Nat.reduceSub,Nat.reduceMul,Int.reduceLT,Int.reduceLE,Int.reduceNeg,Int.reduceToNat,reduceCtorEq,Nat.reduceBEq,Nat.reduceBNe,Qk,Qe,Value.cells,am,mm,keep, f_, fo_, aint, lv, hlt]; refine hK_ _ _ ?_; clear hK_ K_; repeat first | refine QL ?_ | refine QM ?_)))
  repeat first | refine Qo ?_ | refine Qn ?_
  refine awp_if false rfl (by first | (simp only [aeval_tmp, look, ↓reduceIte, Nat.reduceEqDiff]; try rfl) | rfl) (fun h => absurd h (by decide)) (fun _ => ?_)
  clear f_ fo_ N_
  have hfew := ci.few
  have hlenr := ci.len
  have hokL := ci.1.1
  have hL1 := ci.last u0.2
  have hL2 := ci.of u0.1
  have kb2 := AH.cells_own (x2 _ _ kb0)
  have hl2 := (hl.mono x0).mono x2
  have f_ := True.intro
  have fo_ := True.intro
  iterate 1 ((repeat first | refine Qo ?_ | refine Qn ?_); (first | (refine QK (by kernel_rfl) ?_; intro K_ hK_; simp -implicitDefEqProofs (disch := (try simp only [sl]); try omega) only [sm,QJ,Qj,Qi,Qq,QC,Qz,bd,QF,look,aput,Qm,Qc,QA,Qh,ty,↓reduceIte,Nat.reduceEqDiff,Nat.reduceAdd,Nat.reduceSub,Nat.reduceMul,Int.reduceLT,Int.reduceLE,Int.reduceNeg,Int.reduceToNat,reduceCtorEq,Nat.reduceBEq,Nat.reduceBNe,Qk,Qe,Value.cells,am,mm,keep, f_, fo_, aint, lv, vl, vc, vt, v0', v1', kb2]; refine hK_ _ _ ?_; clear hK_ K_; repeat first | refine QL ?_ | refine QM ?_) | (refine awp_exit ?_; (repeat first | refine aThen_exit ?_ | refine aIn_out rfl ?_); refine aIn_here ?_; repeat first | refine QL ?_ | refine QM ?_)))
  (repeat first | refine Qo ?_ | refine Qn ?_); refine QK (by kernel_rfl) ?_; intro K_ hK_; simp -implicitDefEqProofs (disch := (try simp only [sl]); try omega) only [sm,QJ,Qj,Qi,Qq,QC,Qz,bd,QF,look,aput,Qm,Qc,QA,Qh,ty,↓reduceIte,Nat.reduceEqDiff,Nat.reduceAdd,Nat.reduceSub,Nat.reduceMul,Int.reduceLT,Int.reduceLE,Int.reduceNeg,Int.reduceToNat,reduceCtorEq,Nat.reduceBEq,Nat.reduceBNe,Qk,Qe,Value.cells,am,mm,keep, f_, fo_, aint, lv, vl, vc, vt, v0', v1', kb2]
  refine ACalls.mono (last_calls G.length G.length w L u0.2 H2 d2 (by omega) hokL) ?_
  rintro _ H3 ⟨rfl, e3⟩
  rw [hL1]
  have kb3 := AH.cells_own (e3 _ _ (x2 _ _ kb0))
  try simp -implicitDefEqProofs (disch := (try simp only [sl]); try omega) only [sm,QJ,Qj,Qi,Qq,QC,Qz,bd,QF,look,aput,Qm,Qc,QA,Qh,ty,↓reduceIte,Nat.reduceEqDiff,Nat.reduceAdd,Nat.reduceSub,Nat.reduceMul,Int.reduceLT,Int.reduceLE,Int.reduceNeg,Int.reduceToNat,reduceCtorEq,Nat.reduceBEq,Nat.reduceBNe,Qk,Qe,Value.cells,am,mm,keep, f_, fo_, aint, lv, vl, vc, vt, v0', v1', kb3]
  try (refine hK_ _ _ ?_; clear hK_ K_; repeat first | refine QL ?_ | refine QM ?_)
  (repeat first | refine Qo ?_ | refine Qn ?_); refine QK (by kernel_rfl) ?_; intro K_ hK_; simp -implicitDefEqProofs (disch := (try simp only [sl]); try omega) only [sm,QJ,Qj,Qi,Qq,QC,Qz,bd,QF,look,aput,Qm,Qc,QA,Qh,ty,↓reduceIte,Nat.reduceEqDiff,Nat.reduceAdd,Nat.reduceSub,Nat.reduceMul,Int.reduceLT,Int.reduceLE,Int.reduceNeg,Int.reduceToNat,reduceCtorEq,Nat.reduceBEq,Nat.reduceBNe,Qk,Qe,Value.cells,am,mm,keep, f_, fo_, aint, lv, vl, vc, vt, v0', v1', kb3]
  refine ACalls.mono (reflast_calls rv r u0.2 H3 (sr.mono e3) (by omega)) ?_
  rintro _ G3 ⟨rfl, rfl⟩
  try simp -implicitDefEqProofs (disch := (try simp only [sl]); try omega) only [sm,QJ,Qj,Qi,Qq,QC,Qz,bd,QF,look,aput,Qm,Qc,QA,Qh,ty,↓reduceIte,Nat.reduceEqDiff,Nat.reduceAdd,Nat.reduceSub,Nat.reduceMul,Int.reduceLT,Int.reduceLE,Int.reduceNeg,Int.reduceToNat,reduceCtorEq,Nat.reduceBEq,Nat.reduceBNe,Qk,Qe,Value.cells,am,mm,keep, f_, fo_, aint, lv, vl, vc, vt, v0', v1', kb3]
  try (refine hK_ _ _ ?_; clear hK_ K_; repeat first | refine QL ?_ | refine QM ?_)
  (repeat first | refine Qo ?_ | refine Qn ?_); refine QK (by kernel_rfl) ?_; intro K_ hK_; simp -implicitDefEqProofs (disch := (try simp only [sl]); try omega) only [sm,QJ,Qj,Qi,Qq,QC,bd,look,aput,Qm,Qh,ty,↓reduceIte,Nat.reduceEqDiff,Nat.reduceAdd,Nat.reduceSub,Nat.reduceMul,Int.reduceLT,Int.reduceLE,Int.reduceNeg,Int.reduceToNat,reduceCtorEq,Nat.reduceBEq,Nat.reduceBNe,Qk,Qe,Value.cells,am,mm,keep, f_, fo_, aint, lv, vl, vc, vt, v0', v1', kb3]
  refine ACalls.mono (ltheirs_calls v0 l G3 (hl2.mono e3) (by omega)) ?_
  rintro vt4 H4 ⟨o4, e4⟩
  try simp -implicitDefEqProofs (disch := (try simp only [sl]); try omega) only [sm,QJ,Qj,Qi,Qq,QC,bd,look,aput,Qm,Qh,ty,↓reduceIte,Nat.reduceEqDiff,Nat.reduceAdd,Nat.reduceSub,Nat.reduceMul,Int.reduceLT,Int.reduceLE,Int.reduceNeg,Int.reduceToNat,reduceCtorEq,Nat.reduceBEq,Nat.reduceBNe,Qk,Qe,Value.cells,am,mm,keep, f_, fo_, aint, lv, vl, vc, vt, v0', v1', kb3]
  try (refine hK_ _ _ ?_; clear hK_ K_; repeat first | refine QL ?_ | refine QM ?_)
  refine ACalls.mono (twice_calls vt4 l H4 o4.sln (by omega) hr) ?_
  rintro _ H5 ⟨⟨a5, b5, rfl, tw5⟩, e5⟩
  try simp -implicitDefEqProofs (disch := (try simp only [sl]); try omega) only [sm,QJ,Qj,Qi,Qq,QC,bd,look,aput,Qm,Qh,ty,↓reduceIte,Nat.reduceEqDiff,Nat.reduceAdd,Nat.reduceSub,Nat.reduceMul,Int.reduceLT,Int.reduceLE,Int.reduceNeg,Int.reduceToNat,reduceCtorEq,Nat.reduceBEq,Nat.reduceBNe,Qk,Qe,Value.cells,am,mm,keep, f_, fo_, aint, lv, vl, vc, vt, v0', v1', kb3]
  try (refine hK_ _ _ ?_; clear hK_ K_; repeat first | refine QL ?_ | refine QM ?_)
  (repeat first | refine Qo ?_ | refine Qn ?_); refine QK (by kernel_rfl) ?_; intro K_ hK_; simp -implicitDefEqProofs (disch := (try simp only [sl]); try omega) only [sm,QJ,Qj,Qi,Qq,QC,bd,look,aput,Qm,Qh,ty,↓reduceIte,Nat.reduceEqDiff,Nat.reduceAdd,Nat.reduceSub,Nat.reduceMul,Int.reduceLT,Int.reduceLE,Int.reduceNeg,Int.reduceToNat,reduceCtorEq,Nat.reduceBEq,Nat.reduceBNe,Qk,Qe,Value.cells,am,mm,keep, f_, fo_, aint, lv, vl, vc, vt, v0', v1', kb3]
  have x25 : Ext H2 H5 := e3.trans (e4.trans e5)
  refine ACalls.mono (reftwice_calls v0 l H5 (hl2.mono x25) (by omega) hr) ?_
  rintro _ H6 ⟨⟨a6, b6, rfl, tw6⟩, e6⟩
  obtain ⟨rfl, rfl⟩ := tw5.uniq tw6
  have x26 : Ext H2 H6 := x25.trans e6
  have kb6 := AH.cells_own (x26 _ _ (x2 _ _ kb0))
  try simp -implicitDefEqProofs (disch := (try simp only [sl]); try omega) only [sm,QJ,Qj,Qi,Qq,QC,bd,look,aput,Qm,Qh,ty,↓reduceIte,Nat.reduceEqDiff,Nat.reduceAdd,Nat.reduceSub,Nat.reduceMul,Int.reduceLT,Int.reduceLE,Int.reduceNeg,Int.reduceToNat,reduceCtorEq,Nat.reduceBEq,Nat.reduceBNe,Qk,Qe,Value.cells,am,mm,keep, f_, fo_, aint, lv, vl, vc, vt, v0', v1', kb6]
  try (refine hK_ _ _ ?_; clear hK_ K_; repeat first | refine QL ?_ | refine QM ?_)
  (repeat first | refine Qo ?_ | refine Qn ?_); refine awp_region_drawK (id := 17) [(0, []), (1, []), (2, []), (4, []), (5, []), (6, []), (3, [6]), (7, []), (8, []), (9, [])] mixed (by kernel_rfl) ?_; intro K_ hK_; simp -implicitDefEqProofs (disch := (try simp only [sl]); try omega) only [sm,aSel,Qu,Qv,Qw,Qx,Qy,Qj,Qi,Qq,QC,Qz,bd,QF,look,aput,Qm,Qc,QA,ty,↓reduceIte,Nat.reduceEqDiff,Nat.reduceAdd,Nat.reduceSub,Nat.reduceMul,Int.reduceLT,Int.reduceLE,Int.reduceNeg,Int.reduceToNat,reduceCtorEq,Nat.reduceBEq,Nat.reduceBNe,Qk,Qe,Value.cells,am,mm,keep, f_, fo_, aint, lv, vl, vc, vt, v0', v1', kb6]
  have hsr : ((ofL L u0.1).length : Int) ≤ sumR L := ofL_len hokL u0.1
  refine ACalls.mono (of_calls G.length G.length w L u0.1 H6 (d2.mono x26) hokL (by omega)) ?_
  rintro va H7 ⟨o7, e7⟩
  rw [hL2] at o7 hsr
  have kb7 := AH.cells_own ((x26.trans e7) _ _ (x2 _ _ kb0))
  try simp -implicitDefEqProofs (disch := (try simp only [sl]); try omega) only [sm,aSel,Qu,Qv,Qw,Qx,Qy,Qj,Qi,Qq,QC,Qz,bd,QF,look,aput,Qm,Qc,QA,ty,↓reduceIte,Nat.reduceEqDiff,Nat.reduceAdd,Nat.reduceSub,Nat.reduceMul,Int.reduceLT,Int.reduceLE,Int.reduceNeg,Int.reduceToNat,reduceCtorEq,Nat.reduceBEq,Nat.reduceBNe,Qk,Qe,Value.cells,am,mm,keep, f_, fo_, aint, lv, vl, vc, vt, v0', v1', kb6, kb7, true_and, and_self]
  try (refine hK_ _ _ ?_; clear hK_ K_; repeat first | refine QL ?_ | refine QM ?_)
  refine ACalls.mono (refof_calls rv r u0.1 H7 (sr.mono (x26.trans e7)) (by omega)) ?_
  rintro vb H8 ⟨o8, e8⟩
  have o7' := o7.mono e8
  have la := alen_slnU (P := Try.prog) (T := 71) (by simp only [ty]) o7'.sln
  have lb := alen_slnU (P := Try.prog) (T := 71) (by simp only [ty]) o8.sln
  try simp -implicitDefEqProofs (disch := (try simp only [sl]); try omega) only [sm,aSel,Qu,Qv,Qw,Qx,Qy,Qj,Qi,Qq,QC,Qz,bd,QF,look,aput,Qm,Qc,QA,ty,↓reduceIte,Nat.reduceEqDiff,Nat.reduceAdd,Nat.reduceSub,Nat.reduceMul,Int.reduceLT,Int.reduceLE,Int.reduceNeg,Int.reduceToNat,reduceCtorEq,Nat.reduceBEq,Nat.reduceBNe,Qk,Qe,Value.cells,am,mm,keep, f_, fo_, aint, la, lb, hnn]
  try (refine hK_ _ _ ?_; clear hK_ K_; repeat first | refine QL ?_ | refine QM ?_)
  iterate 1 ((repeat first | refine Qo ?_ | refine Qn ?_); (first | (refine QK (by kernel_rfl) ?_; intro K_ hK_; simp -implicitDefEqProofs (disch := (try simp only [sl]); try omega) only [sm,QJ,Qj,Qi,Qq,QC,bd,look,aput,QI,abin,anil,ty,↓reduceIte,Nat.reduceEqDiff,Nat.reduceAdd,Nat.reduceSub,Nat.reduceMul,Int.reduceLT,Int.reduceLE,Int.reduceNeg,Int.reduceToNat,reduceCtorEq,Nat.reduceBEq,Nat.reduceBNe,Qk,Qe,Value.cells,am,mm,keep, f_, fo_, aint, la, lb, hnn]; refine hK_ _ _ ?_; clear hK_ K_; repeat first | refine QL ?_ | refine QM ?_)))
  repeat first | refine Qo ?_ | refine Qn ?_
  refine awp_if false rfl (by first | (simp only [aeval_tmp, look, ↓reduceIte, Nat.reduceEqDiff]; try rfl) | rfl) (fun h => absurd h (by decide)) (fun _ => ?_)
  iterate 2 ((repeat first | refine Qo ?_ | refine Qn ?_); (first | (refine QK (by kernel_rfl) ?_; intro K_ hK_; simp -implicitDefEqProofs (disch := (try simp only [sl]); try omega) only [sm,QJ,Qj,Qi,Qq,QC,bd,look,aput,ty,↓reduceIte,Nat.reduceEqDiff,Nat.reduceAdd,Nat.reduceSub,Nat.reduceMul,Int.reduceLT,Int.reduceLE,Int.reduceNeg,Int.reduceToNat,reduceCtorEq,Nat.reduceBEq,Nat.reduceBNe,Qk,Qe,Value.cells,am,mm,keep, f_, fo_, aint, la, lb, hnn]; refine hK_ _ _ ?_; clear hK_ K_; repeat first | refine QL ?_ | refine QM ?_) | (refine awp_skip ?_; repeat first | refine QL ?_ | refine QM ?_)))
  generalize ofU r u0.1 = Z at *
  have sa := o7'.sln
  have sb := o8.sln
  rw [← flI] at sa sb
  repeat first | refine Qo ?_ | refine Qn ?_
  refine awp_forK [3, 5, 6, 9, 10, 11, 12, 13, 14, 15, 16, 17, 18, 81] (fun i : Nat => [(82, I64 i)]) (fun i : Nat => H8) (fun i : Nat => i ≤ Z.length) (fun i : Nat => Z.length - i) (0) (Nat.zero_le _) (by repeat first | exact Forgets.nil | refine Forgets.cons (by first | (simp only [look, ↓reduceIte, Nat.reduceEqDiff]; done) | (simp only [look, ↓reduceIte, Nat.reduceEqDiff]; rfl) | simp [look, hii2]) ?_) rfl ?_
  rintro i hi
  by_cases hlt2 : i < Z.length
  · obtain ⟨g, o, e, cs, hve, hcs, hcc, hlen⟩ := sa.at (f1_hl Z) i hlt2
    obtain ⟨g', o', e', cs', hwe, hcs', hcc', hlen'⟩ := sb.at (f1_hl Z) i hlt2
    cases hve
    cases hwe
    have hc0 : cs[o + i * 1]? = some (iv Z[i]) := by
      have h0 : (f1 Z[i])[0]? = some (iv Z[i]) := rfl
      rw [← hcc, List.getElem?_take, if_pos (by decide), List.getElem?_drop, Nat.add_zero] at h0
      exact h0
    have hc0' : cs'[o' + i * 1]? = some (iv Z[i]) := by
      have h0 : (f1 Z[i])[0]? = some (iv Z[i]) := rfl
      rw [← hcc', List.getElem?_take, if_pos (by decide), List.getElem?_drop, Nat.add_zero] at h0
      exact h0
    generalize Z[i] = z at *
    have hc1 : cs[o + i]? = some (iv z) := by rw [Nat.mul_one] at hc0; exact hc0
    have hc1' : cs'[o' + i]? = some (iv z) := by rw [Nat.mul_one] at hc0'; exact hc0'
    have hii3 : IntKind.i64.wrap ((i : Int) + 1) = (i : Int) + 1 := wi64 _ (by omega) (by omega)
    iterate 1 ((repeat first | refine Qo ?_ | refine Qn ?_); (first | (refine QK (by kernel_rfl) ?_; intro K_ hK_; simp -implicitDefEqProofs (disch := (try simp only [sl]); try omega) only [sm,QJ,Qj,Qi,Qq,QC,bd,look,aput,QI,abin,anil,ty,↓reduceIte,Nat.reduceEqDiff,Nat.reduceAdd,Nat.reduceSub,Nat.reduceMul,Int.reduceLT,Int.reduceLE,Int.reduceNeg,Int.reduceToNat,reduceCtorEq,Nat.reduceBEq,Nat.reduceBNe,Qk,Qe,Value.cells,am,mm,keep, aint, la, lb, hcs, hcs', hc0, hc0', hc1, hc1', hlen, hlen', hnn, true_and, and_self, hlt2]; refine hK_ _ _ ?_; clear hK_ K_; repeat first | refine QL ?_ | refine QM ?_)))
    repeat first | refine Qo ?_ | refine Qn ?_
    refine awp_if true rfl (by first | (simp only [aeval_tmp, look, ↓reduceIte, Nat.reduceEqDiff]; try rfl) | rfl) (fun _ => ?_) (fun h => absurd h (by decide))
    iterate 3 ((repeat first | refine Qo ?_ | refine Qn ?_); (first | ((first | refine QK (by kernel_rfl) ?_ | refine awp_region_drawK (id := 23) [(0, []), (1, []), (2, []), (3, []), (4, []), (5, []), (6, []), (7, []), (8, [])] mixed (by kernel_rfl) ?_); intro K_ hK_; simp -implicitDefEqProofs (disch := (try simp only [sl]); try omega) only [sm,QJ,aSel,Qu,Qv,Qw,Qx,Qy,Qj,Qi,Qq,QC,Qz,bd,QF,look,aput,QI,abin,anil,Qb,QA,ty,↓reduceIte,Nat.reduceEqDiff,Nat.reduceAdd,Nat.reduceSub,Nat.reduceMul,Int.reduceLT,Int.reduceLE,Int.reduceNeg,Int.reduceToNat,reduceCtorEq,Nat.reduceBEq,Nat.reduceBNe,Qk,Qe,Value.cells,am,mm,keep, aint, la, lb, hcs, hcs', hc0, hc0', hc1, hc1', hlen, hlen', hnn, true_and, and_self, hlt2]; refine hK_ _ _ ?_; clear hK_ K_; repeat first | refine QL ?_ | refine QM ?_) | (refine awp_skip ?_; repeat first | refine QL ?_ | refine QM ?_)))
    repeat first | refine Qo ?_ | refine Qn ?_
    refine awp_if false rfl (by first | (simp only [aeval_tmp, look, ↓reduceIte, Nat.reduceEqDiff]; try rfl) | rfl) (fun h => absurd h (by decide)) (fun _ => ?_)
    iterate 2 ((repeat first | refine Qo ?_ | refine Qn ?_); (first | (refine QK (by kernel_rfl) ?_; intro K_ hK_; simp -implicitDefEqProofs (disch := (try simp only [sl]); try omega) only [sm,QJ,Qj,Qi,Qq,QC,bd,look,aput,QI,abin,anil,ty,↓reduceIte,Nat.reduceEqDiff,Nat.reduceAdd,Nat.reduceSub,Nat.reduceMul,Int.reduceLT,Int.reduceLE,Int.reduceNeg,Int.reduceToNat,reduceCtorEq,Nat.reduceBEq,Nat.reduceBNe,Qk,Qe,Value.cells,am,mm,keep, aint, la, lb, hcs, hcs', hc0, hc0', hc1, hc1', hlen, hlen', hnn, true_and, and_self, hii3]; refine hK_ _ _ ?_; clear hK_ K_; repeat first | refine QL ?_ | refine QM ?_) | (refine awp_skip ?_; repeat first | refine QL ?_ | refine QM ?_)))
    refine ⟨i + 1, by omega, (by repeat first | exact Forgets.nil | refine Forgets.cons (by first | (simp only [look, ↓reduceIte, Nat.reduceEqDiff]; done) | (simp only [look, ↓reduceIte, Nat.reduceEqDiff]; rfl) | simp [look, hii3]) ?_), ?_⟩
    first | omega | exact ⟨rfl, by omega⟩ | exact ⟨rfl, by simp only []; omega⟩ | (simp only []; omega)
  have x28 : Ext H2 H8 := x26.trans (e7.trans e8)
  have kb8 := AH.cells_own (x28 _ _ (x2 _ _ kb0))
  iterate 1 ((repeat first | refine Qo ?_ | refine Qn ?_); (first | (refine QK (by kernel_rfl) ?_; intro K_ hK_; simp -implicitDefEqProofs (disch := (try simp only [sl]); try omega) only [sm,QJ,Qj,Qi,Qq,QC,bd,look,aput,QI,abin,anil,ty,↓reduceIte,Nat.reduceEqDiff,Nat.reduceAdd,Nat.reduceSub,Nat.reduceMul,Int.reduceLT,Int.reduceLE,Int.reduceNeg,Int.reduceToNat,reduceCtorEq,Nat.reduceBEq,Nat.reduceBNe,Qk,Qe,Value.cells,am,mm,keep, aint, vl, vc, vt, kb8, hlt2]; refine hK_ _ _ ?_; clear hK_ K_; repeat first | refine QL ?_ | refine QM ?_)))
  repeat first | refine Qo ?_ | refine Qn ?_
  refine awp_if false rfl (by first | (simp only [aeval_tmp, look, ↓reduceIte, Nat.reduceEqDiff]; try rfl) | rfl) (fun h => absurd h (by decide)) (fun _ => ?_)
  iterate 1 ((repeat first | refine Qo ?_ | refine Qn ?_); (first | (refine awp_region_drawK (id := 26) [(0, []), (1, []), (3, []), (4, []), (2, [4]), (5, []), (6, []), (7, []), (8, []), (9, []), (10, []), (11, []), (12, []), (13, []), (14, []), (15, []), (16, []), (17, []), (18, []), (19, []), (20, []), (21, []), (22, []), (23, []), (24, []), (25, []), (26, []), (27, []), (28, []), (29, []), (30, [])] mixed (by kernel_rfl) ?_; intro K_ hK_; simp -implicitDefEqProofs (disch := (try simp only [sl]); try omega) only [sm,aSel,Qu,Qv,Qw,Qx,Qy,Qj,Qi,Qq,QC,Qz,bd,QF,look,aput,Qm,QI,abin,anil,QA,ty,↓reduceIte,Nat.reduceEqDiff,Nat.reduceAdd,Nat.reduceSub,Nat.reduceMul,Int.reduceLT,Int.reduceLE,Int.reduceNeg,Int.reduceToNat,reduceCtorEq,Nat.reduceBEq,Nat.reduceBNe,Qk,Qe,Value.cells,am,mm,keep, aint, vl, vc, vt, kb8]; refine hK_ _ _ ?_; clear hK_ K_; repeat first | refine QL ?_ | refine QM ?_) | (refine awp_exit ?_; (repeat first | refine aThen_exit ?_ | refine aIn_out rfl ?_); refine aIn_here ?_; repeat first | refine QL ?_ | refine QM ?_)))
  (repeat first | refine Qo ?_ | refine Qn ?_); refine awp_region_drawK (id := 26) [(0, []), (1, []), (3, []), (4, []), (2, [4]), (5, []), (6, []), (7, []), (8, []), (9, []), (10, []), (11, []), (12, []), (13, []), (14, []), (15, []), (16, []), (17, []), (18, []), (19, []), (20, []), (21, []), (22, []), (23, []), (24, []), (25, []), (26, []), (27, []), (28, []), (29, []), (30, [])] mixed (by kernel_rfl) ?_; intro K_ hK_; simp -implicitDefEqProofs (disch := (try simp only [sl]); try omega) only [sm,aSel,Qu,Qv,Qw,Qx,Qy,Qj,Qi,Qq,QC,Qz,bd,QF,look,aput,Qm,QI,abin,anil,QA,ty,↓reduceIte,Nat.reduceEqDiff,Nat.reduceAdd,Nat.reduceSub,Nat.reduceMul,Int.reduceLT,Int.reduceLE,Int.reduceNeg,Int.reduceToNat,reduceCtorEq,Nat.reduceBEq,Nat.reduceBNe,Qk,Qe,Value.cells,am,mm,keep, aint, vl, vc, vt, kb8]
  refine ACalls.mono (has_calls G.length G.length w L u0 H8 (d2.mono x28) (by omega) ci.1) ?_
  rintro _ H9 ⟨rfl, e9⟩
  have hdec : decide (memR L u0) = decide (u0 ∈ r) := by rw [decide_eq_decide]; exact (ci.2.2 u0).symm
  rw [hdec]
  have kb9 := AH.cells_own ((x28.trans e9) _ _ (x2 _ _ kb0))
  try simp -implicitDefEqProofs (disch := (try simp only [sl]); try omega) only [sm,aSel,Qu,Qv,Qw,Qx,Qy,Qj,Qi,Qq,QC,Qz,bd,QF,look,aput,Qm,QI,abin,anil,QA,ty,↓reduceIte,Nat.reduceEqDiff,Nat.reduceAdd,Nat.reduceSub,Nat.reduceMul,Int.reduceLT,Int.reduceLE,Int.reduceNeg,Int.reduceToNat,reduceCtorEq,Nat.reduceBEq,Nat.reduceBNe,Qk,Qe,Value.cells,am,mm,keep, aint, vl, vc, vt, kb8, kb9, true_and, and_self, hii, hBB]
  try (refine hK_ _ _ ?_; clear hK_ K_; repeat first | refine QL ?_ | refine QM ?_)
  refine ACalls.mono (refhas_calls rv r u0 H9 (sr.mono (x28.trans e9)) (by omega) (fun y hy => (hru y hy).1) hu0) ?_
  rintro _ HA ⟨rfl, eA⟩
  have kbA := AH.cells_own ((x28.trans (e9.trans eA)) _ _ (x2 _ _ kb0))
  try simp -implicitDefEqProofs (disch := (try simp only [sl]); try omega) only [sm,aSel,Qu,Qv,Qw,Qx,Qy,Qj,Qi,Qq,QC,Qz,bd,QF,look,aput,Qm,QI,abin,anil,QA,ty,↓reduceIte,Nat.reduceEqDiff,Nat.reduceAdd,Nat.reduceSub,Nat.reduceMul,Int.reduceLT,Int.reduceLE,Int.reduceNeg,Int.reduceToNat,reduceCtorEq,Nat.reduceBEq,Nat.reduceBNe,Qk,Qe,Value.cells,am,mm,keep, aint, vl, vc, vt, kb8, kb9, kbA, true_and, and_self, hii, hBB]
  try (refine hK_ _ _ ?_; clear hK_ K_; repeat first | refine QL ?_ | refine QM ?_)
  refine ACalls.mono (lalive_calls _) ?_
  rintro _ HB ⟨rfl, eB⟩
  try simp -implicitDefEqProofs (disch := (try simp only [sl]); try omega) only [sm,aSel,Qu,Qv,Qw,Qx,Qy,Qj,Qi,Qq,QC,Qz,bd,QF,look,aput,Qm,QI,abin,anil,QA,ty,↓reduceIte,Nat.reduceEqDiff,Nat.reduceAdd,Nat.reduceSub,Nat.reduceMul,Int.reduceLT,Int.reduceLE,Int.reduceNeg,Int.reduceToNat,reduceCtorEq,Nat.reduceBEq,Nat.reduceBNe,Qk,Qe,Value.cells,am,mm,keep, aint, vl, vc, vt, kb8, kb9, kbA, true_and, and_self, hii, hBB]
  try (refine hK_ _ _ ?_; clear hK_ K_; repeat first | refine QL ?_ | refine QM ?_)
  first | refine awp_ret ?_ | skip
  show ∃ v, aresults Try.prog Try.f8 _ _ = some v ∧ _
  rw [aresults_1 (r := .tmp 4) (by kernel_rfl)]
  simp -implicitDefEqProofs (disch := (try simp only [sl]); try omega) only [aresult, Option.some.injEq, exists_eq_left', sm,Qj,Qi,Qq,QC,Qz,bd,QF,look,aput,QB,Qf,QA,ty,↓reduceIte,Nat.reduceEqDiff,Nat.reduceAdd,Nat.reduceSub,Nat.reduceMul,Int.reduceLT,Int.reduceLE,Int.reduceNeg,Int.reduceToNat,reduceCtorEq,Nat.reduceBEq,Nat.reduceBNe,Qk,Qe,Value.cells,am,mm,keep, aint, vl, vc, vt, kb8, kb9, kbA, true_and, and_self, hii, hBB]
end Go.Proofs.Ytldfnfpinemedaa
