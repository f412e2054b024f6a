/- ledger: what the document says of Add. -/
import Derived.Test.YtldfnfpinemedaaLeb
namespace Go.Proofs.Ytldfnfpinemedaa
open Go Go.RowKit
--hide
set_option linter.unusedSimpArgs false
set_option linter.unusedVariables false
set_option maxRecDepth 4000
theorem OSn.fresh {s b q : Nat} {H : AH} {v : Value} {n : Nat} {cells : List Value} (h : OSn s b H v n cells) (hq : H.length ≤ q) : ∀ o m e, v ≠ .slice (some ⟨q, o, .none⟩) m e := by
  rcases h with ⟨rfl, -, -⟩ | ⟨g, rfl, hg, -⟩
  · intro o m e k; cases k
  · intro o m e k
    have := got_lt hg
    cases k; omega
def Dj (a b : Value) : Prop := ∀ q o m e o' m' e', a = .slice (some ⟨q, o, none⟩) m e → b ≠ .slice (some ⟨q, o', none⟩) m' e'
theorem Dj.symm {a b : Value} (h : Dj a b) : Dj b a := fun q o m e o' m' e' h1 h2 => h q o' m' e' o m e h2 h1
theorem Dj.nil (b : Value) : Dj (.slice none 0 0) b := fun q o m e o' m' e' h1 => by cases h1
theorem Dj.new {s c n n' : Nat} {H H' : AH} {a b : Value} {cells cells' : List Value} (ha : OSn s H.length H' a n cells) (hb : OSn s c H b n' cells') : Dj a b := by
  rcases ha with ⟨rfl, -, -⟩ | ⟨g, rfl, -, hg⟩
  · exact Dj.nil _
  · intro q o m e o' m' e' h1 h2
    cases h1
    exact hb.fresh hg _ _ _ h2
theorem OSn.still {s b n : Nat} {H H' : AH} {a v : Value} {cells : List Value} (h : OSn s b H v n cells) (hd : Dj a v) (e : ∀ p y, (∀ o m e, a ≠ .slice (some ⟨p, o, .none⟩) m e) → H[p]? = some y → H'[p]? = some y) : OSn s b H' v n cells := by
  rcases h with h | ⟨g, h1, h2, h3⟩
  · exact .inl h
  · exact .inr ⟨g, h1, e _ _ (fun o m e' k => hd g o m e' 0 n s k h1) h2, h3⟩
theorem OSn.appS {P : Program} {H : AH} {t tx b bytes n m : Nat} {v x : Value} {cells news : List Value} (he : elemT P t = some (2, bytes)) (ht : sliceT P tx = true) (h : OSn 2 b H v n cells) (hc : cells.length = n * 2) (hx : SLn H x m news) (hnl : news.length = m * 2) (hv : news.all cellv = true) (hb : (n + m) * bytes ≤ 140737488355328) (hn : n + m ≤ 9223372036854775807) (hbl : b ≤ H.length) :
    ∃ s' H', aappend P H t tx v x = some (s', H') ∧ OSn 2 b H' s' (n + m) (cells ++ news) ∧ Keeps b H H' := by
  have hsrc := asrc_slnR (t := t) (bytes := bytes) ht hx hnl (by decide) hv
  unfold aappend
  by_cases hm : m = 0
  · subst hm
    have hnn : news = [] := List.eq_nil_of_length_eq_zero (by omega)
    subst hnn
    refine ⟨v, H, ?_, by rw [List.append_nil, Nat.add_zero]; exact h, Keeps.refl _ _⟩
    rcases h with ⟨rfl, -, -⟩ | ⟨g, rfl, -, -⟩
    · simp only [he, hsrc, if_true]
    · simp only [he, hsrc, if_true]
  rcases h with ⟨rfl, rfl, rfl⟩ | ⟨g, rfl, hg, hbg⟩
  · refine ⟨.slice (some ⟨H.length, 0, .none⟩) m 2, H ++ [.own news], ?_, .inr ⟨H.length, by rw [Nat.zero_add], by rw [List.nil_append]; exact gpush _ _, hbl⟩, (Keeps.refl _ _).push hbl _⟩
    simp only [he, hsrc]
    rw [if_neg hm, if_pos ⟨by rw [Nat.zero_add] at hb; exact hb, by omega⟩]
  · refine ⟨.slice (some ⟨H.length, 0, .none⟩) (n + m) 2, H.set g .dead ++ [.own (cells ++ news)], ?_, .inr ⟨H.length, rfl, ?_, hbl⟩, ((Keeps.refl _ _).set hbg _).push hbl _⟩
    · simp only [he, hsrc, hg]
      rw [if_neg hm, if_pos ⟨trivial, by decide, by omega, hb, hn⟩, List.drop_zero, ← hc, List.take_length]
    · have : H.length = (H.set g ABlk.dead).length := by rw [List.length_set]
      rw [this]; exact gpush _ _
abbrev lowU (l : List Us) (u : Us) : List Us := l.filter fun x => decide (ltU x u)
abbrev highU (l : List Us) (u : Us) : List Us := l.filter fun x => !decide (ltU x u)
theorem low_stepU {r : List Us} {u : Us} {i : Nat} (hi : i < r.length) : (ltU r[i] u → lowU (r.take (i + 1)) u = lowU (r.take i) u ++ [r[i]] ∧ highU (r.take (i + 1)) u = highU (r.take i) u) ∧ (¬ ltU r[i] u → lowU (r.take (i + 1)) u = lowU (r.take i) u ∧ highU (r.take (i + 1)) u = highU (r.take i) u ++ [r[i]]) := by
  have e := List.take_succ_eq_append_getElem hi
  unfold lowU highU
  rw [e, List.filter_append, List.filter_append]
  refine ⟨fun h => ?_, fun h => ?_⟩ <;> simp [h]
theorem low_lenU (r : List Us) (u : Us) (i : Nat) : (lowU (r.take i) u).length ≤ r.length ∧ (highU (r.take i) u).length ≤ r.length :=
  ⟨Nat.le_trans (List.length_filter_le _ _) (by rw [List.length_take]; omega), Nat.le_trans (List.length_filter_le _ _) (by rw [List.length_take]; omega)⟩
def rE (l : List Us) (u : Us) : Int := if okU u then (if u ∈ l then 7 else 0) else 1
def rL (l : List Us) (u : Us) : List Us := if rE l u = 0 then insU l u else l
theorem flU_cellv (l : List Us) : (flU l).all cellv = true := by
  rw [List.all_eq_true]
  intro x hx
  rw [List.mem_flatten] at hx
  obtain ⟨c, hc, hx⟩ := hx
  rw [List.mem_map] at hc
  obtain ⟨p, _, rfl⟩ := hc
  exact List.all_eq_true.1 (usc_cellv p) x hx
theorem Frm.refl (v : Value) (H : AH) : Frm v v H := fun q o n e k => .inr ⟨o, n, e, k⟩
set_option maxHeartbeats 8000000 in
theorem refadd_calls (v : Value) (r : List Us) (u : Us) (H : AH) (hv : SLn H v r.length (flU r)) (hm : r.length ≤ 900) (hr : ∀ x ∈ r, rngU x) (hu : rngU u) :
    ACalls Try.prog 12 #[v, .agg (usc u).toArray] H fun w H' => (∃ x, w = .tuple #[x, .int .i64 (rE r u)] ∧ SLn H' x (rL r u).length (flU (rL r u)) ∧ (x = v ∧ rL r u = r ∨ ∀ q o n e, x = .slice (some ⟨q, o, none⟩) n e → H.length ≤ q)) ∧ Ext H H' := by
  have lv := alen_slnU (P := Try.prog) (T := 22) (by simp only [ty]) hv
  have ul := usc_length u
  have uc := usc_cellv u
  have ut := usc_take u
  have u0 := usc_0 u
  have u1 := usc_1 u
  have fo_ : True := trivial
  have N_ := Now.start H
  have f_ := N_.has
  simp only [Has] at f_
  refine acalls_of_body Try.func12 rfl Try.ntmps12 (by simp) ?_
  simp only [argsT, Nat.reduceAdd]
  iterate 1 ((repeat first | refine Qo ?_ | refine Qn ?_); (first | (refine QK (by kernel_rfl) ?_; intro K_ hK_; simp -implicitDefEqProofs (disch := (try simp only [sl]); try omega) only [sm,QJ,Qj,Qi,Qq,QC,bd,look,aput,ty,↓reduceIte,Nat.reduceEqDiff,Nat.reduceAdd,Nat.reduceSub,Nat.reduceMul,Int.reduceLT,Int.reduceLE,Int.reduceNeg,Int.reduceToNat,reduceCtorEq,Nat.reduceBEq,Nat.reduceBNe,Qk,Qe,Value.cells,am,mm,keep, f_, fo_, aint, lv, ul, uc, ut, u0, u1]; refine hK_ _ _ ?_; clear hK_ K_; repeat first | refine QL ?_ | refine QM ?_)))
  first | refine AWp.snap8 N_ ?_ | refine AWp.snap7 N_ ?_ | refine AWp.snap6 N_ ?_ | refine AWp.snap5 N_ ?_ | refine AWp.snap4 N_ ?_ | refine AWp.snap3 N_ ?_ | refine AWp.snap2 N_ ?_ | refine AWp.snap1 N_ ?_
  clear fo_; have fo_ := f_; clear f_ N_; intro H1 xH1 lH1 N_
  have f_ := N_.has
  simp only [Has] at f_
  by_cases hok : okU u
  case neg =>
    have hE : rE r u = 1 := by rw [rE, if_neg hok]
    have hL : rL r u = r := by rw [rL, hE, if_neg (by decide)]
    by_cases k0 : u.1 = 0
    · have e0 : (u.1 == 0) = true := by rw [beq_iff_eq]; exact k0
      iterate 1 ((repeat first | refine Qo ?_ | refine Qn ?_); (first | (refine QK (by kernel_rfl) ?_; intro K_ hK_; simp -implicitDefEqProofs (disch := (try simp only [sl]); try omega) only [sm,QJ,Qj,Qi,Qq,QC,Qz,bd,QF,look,aput,QI,abin,anil,Qc,QA,ty,↓reduceIte,Nat.reduceEqDiff,Nat.reduceAdd,Nat.reduceSub,Nat.reduceMul,Int.reduceLT,Int.reduceLE,Int.reduceNeg,Int.reduceToNat,reduceCtorEq,Nat.reduceBEq,Nat.reduceBNe,Qk,Qe,Value.cells,am,mm,keep, f_, fo_, aint, lv, ul, uc, ut, u0, u1, e0]; refine hK_ _ _ ?_; clear hK_ K_; repeat first | refine QL ?_ | refine QM ?_)))
      repeat first | refine Qo ?_ | refine Qn ?_
      refine awp_if true rfl (by first | (simp only [aeval_tmp, look, ↓reduceIte, Nat.reduceEqDiff]; try rfl) | rfl) (fun _ => ?_) (fun h => absurd h (by decide))
      iterate 1 ((repeat first | refine Qo ?_ | refine Qn ?_); (first | (refine QK (by kernel_rfl) ?_; intro K_ hK_; simp -implicitDefEqProofs (disch := (try simp only [sl]); try omega) only [sm,QJ,Qj,Qi,Qq,QC,bd,look,aput,ty,↓reduceIte,Nat.reduceEqDiff,Nat.reduceAdd,Nat.reduceSub,Nat.reduceMul,Int.reduceLT,Int.reduceLE,Int.reduceNeg,Int.reduceToNat,reduceCtorEq,Nat.reduceBEq,Nat.reduceBNe,Qk,Qe,Value.cells,am,mm,keep, f_, fo_, aint, lv, ul, uc, ut, u0, u1]; refine hK_ _ _ ?_; clear hK_ K_; repeat first | refine QL ?_ | refine QM ?_)))
      first | refine awp_ret ?_ | skip
      show ∃ v, aresults Try.prog Try.f12 _ _ = some v ∧ _
      rw [aresults_2 (r := .tmp 4) (s := .tmp 5) (by kernel_rfl)]
      simp -implicitDefEqProofs (disch := (try simp only [sl]); try omega) only [aresult, Option.some.injEq, exists_eq_left', sm,Qj,Qi,Qq,QC,Qz,bd,QF,look,aput,QB,Qf,QA,ty,↓reduceIte,Nat.reduceEqDiff,Nat.reduceAdd,Nat.reduceSub,Nat.reduceMul,Int.reduceLT,Int.reduceLE,Int.reduceNeg,Int.reduceToNat,reduceCtorEq,Nat.reduceBEq,Nat.reduceBNe,Qk,Qe,Value.cells,am,mm,keep, f_, fo_, aint, lv, ul, uc, ut, u0, u1]
      rw [hE, hL]
      exact ⟨⟨_, rfl, hv.mono N_.ext, .inl ⟨rfl, rfl⟩⟩, N_.ext⟩
    have e0 : (u.1 == 0) = false := by rw [beq_eq_false_iff_ne]; exact k0
    by_cases k1 : u.2 < 0
    · -- (cursor back)
      iterate 1 ((repeat first | refine Qo ?_ | refine Qn ?_); (first | (refine QK (by kernel_rfl) ?_; intro K_ hK_; simp -implicitDefEqProofs (disch := (try simp only [sl]); try omega) only [sm,QJ,Qj,Qi,Qq,QC,Qz,bd,QF,look,aput,QI,abin,anil,Qc,QA,ty,↓reduceIte,Nat.reduceEqDiff,Nat.reduceAdd,Nat.reduceSub,Nat.reduceMul,Int.reduceLT,Int.reduceLE,Int.reduceNeg,Int.reduceToNat,reduceCtorEq,Nat.reduceBEq,Nat.reduceBNe,Qk,Qe,Value.cells,am,mm,keep, f_, fo_, aint, lv, ul, uc, ut, u0, u1, e0, k1]; refine hK_ _ _ ?_; clear hK_ K_; repeat first | refine QL ?_ | refine QM ?_)))
      repeat first | refine Qo ?_ | refine Qn ?_
      refine awp_if true rfl (by first | (simp only [aeval_tmp, look, ↓reduceIte, Nat.reduceEqDiff]; try rfl) | rfl) (fun _ => ?_) (fun h => absurd h (by decide))
      iterate 1 ((repeat first | refine Qo ?_ | refine Qn ?_); (first | (refine QK (by kernel_rfl) ?_; intro K_ hK_; simp -implicitDefEqProofs (disch := (try simp only [sl]); try omega) only [sm,QJ,Qj,Qi,Qq,QC,bd,look,aput,ty,↓reduceIte,Nat.reduceEqDiff,Nat.reduceAdd,Nat.reduceSub,Nat.reduceMul,Int.reduceLT,Int.reduceLE,Int.reduceNeg,Int.reduceToNat,reduceCtorEq,Nat.reduceBEq,Nat.reduceBNe,Qk,Qe,Value.cells,am,mm,keep, f_, fo_, aint, lv, ul, uc, ut, u0, u1]; refine hK_ _ _ ?_; clear hK_ K_; repeat first | refine QL ?_ | refine QM ?_)))
      first | refine awp_ret ?_ | skip
      show ∃ v, aresults Try.prog Try.f12 _ _ = some v ∧ _
      rw [aresults_2 (r := .tmp 4) (s := .tmp 5) (by kernel_rfl)]
      simp -implicitDefEqProofs (disch := (try simp only [sl]); try omega) only [aresult, Option.some.injEq, exists_eq_left', sm,Qj,Qi,Qq,QC,Qz,bd,QF,look,aput,QB,Qf,QA,ty,↓reduceIte,Nat.reduceEqDiff,Nat.reduceAdd,Nat.reduceSub,Nat.reduceMul,Int.reduceLT,Int.reduceLE,Int.reduceNeg,Int.reduceToNat,reduceCtorEq,Nat.reduceBEq,Nat.reduceBNe,Qk,Qe,Value.cells,am,mm,keep, f_, fo_, aint, lv, ul, uc, ut, u0, u1]
      rw [hE, hL]
      exact ⟨⟨_, rfl, hv.mono N_.ext, .inl ⟨rfl, rfl⟩⟩, N_.ext⟩
    have k2 : u.2 ≥ 65536 := by unfold okU at hok; omega
    iterate 1 ((repeat first | refine Qo ?_ | refine Qn ?_); (first | (refine QK (by kernel_rfl) ?_; intro K_ hK_; simp -implicitDefEqProofs (disch := (try simp only [sl]); try omega) only [sm,QJ,Qj,Qi,Qq,QC,Qz,bd,QF,look,aput,QI,abin,anil,Qc,QA,ty,↓reduceIte,Nat.reduceEqDiff,Nat.reduceAdd,Nat.reduceSub,Nat.reduceMul,Int.reduceLT,Int.reduceLE,Int.reduceNeg,Int.reduceToNat,reduceCtorEq,Nat.reduceBEq,Nat.reduceBNe,Qk,Qe,Value.cells,am,mm,keep, f_, fo_, aint, lv, ul, uc, ut, u0, u1, e0, k1, k2]; refine hK_ _ _ ?_; clear hK_ K_; repeat first | refine QL ?_ | refine QM ?_)))
    repeat first | refine Qo ?_ | refine Qn ?_
    refine awp_if true rfl (by first | (simp only [aeval_tmp, look, ↓reduceIte, Nat.reduceEqDiff]; try rfl) | rfl) (fun _ => ?_) (fun h => absurd h (by decide))
    iterate 1 ((repeat first | refine Qo ?_ | refine Qn ?_); (first | (refine QK (by kernel_rfl) ?_; intro K_ hK_; simp -implicitDefEqProofs (disch := (try simp only [sl]); try omega) only [sm,QJ,Qj,Qi,Qq,QC,bd,look,aput,ty,↓reduceIte,Nat.reduceEqDiff,Nat.reduceAdd,Nat.reduceSub,Nat.reduceMul,Int.reduceLT,Int.reduceLE,Int.reduceNeg,Int.reduceToNat,reduceCtorEq,Nat.reduceBEq,Nat.reduceBNe,Qk,Qe,Value.cells,am,mm,keep, f_, fo_, aint, lv, ul, uc, ut, u0, u1]; refine hK_ _ _ ?_; clear hK_ K_; repeat first | refine QL ?_ | refine QM ?_)))
    first | refine awp_ret ?_ | skip
    show ∃ v, aresults Try.prog Try.f12 _ _ = some v ∧ _
    rw [aresults_2 (r := .tmp 4) (s := .tmp 5) (by kernel_rfl)]
    simp -implicitDefEqProofs (disch := (try simp only [sl]); try omega) only [aresult, Option.some.injEq, exists_eq_left', sm,Qj,Qi,Qq,QC,Qz,bd,QF,look,aput,QB,Qf,QA,ty,↓reduceIte,Nat.reduceEqDiff,Nat.reduceAdd,Nat.reduceSub,Nat.reduceMul,Int.reduceLT,Int.reduceLE,Int.reduceNeg,Int.reduceToNat,reduceCtorEq,Nat.reduceBEq,Nat.reduceBNe,Qk,Qe,Value.cells,am,mm,keep, f_, fo_, aint, lv, ul, uc, ut, u0, u1]
    rw [hE, hL]
    exact ⟨⟨_, rfl, hv.mono N_.ext, .inl ⟨rfl, rfl⟩⟩, N_.ext⟩
  have e0 : (u.1 == 0) = false := by rw [beq_eq_false_iff_ne]; exact hok.1
  have k1 : ¬ u.2 < 0 := by have := hok.2.1; omega
  have k2 : ¬ u.2 ≥ 65536 := by have := hok.2.2; omega
  iterate 1 ((repeat first | refine Qo ?_ | refine Qn ?_); (first | (refine QK (by kernel_rfl) ?_; intro K_ hK_; simp -implicitDefEqProofs (disch := (try simp only [sl]); try omega) only [sm,QJ,Qj,Qi,Qq,QC,Qz,bd,QF,look,aput,QI,abin,anil,Qc,QA,ty,↓reduceIte,Nat.reduceEqDiff,Nat.reduceAdd,Nat.reduceSub,Nat.reduceMul,Int.reduceLT,Int.reduceLE,Int.reduceNeg,Int.reduceToNat,reduceCtorEq,Nat.reduceBEq,Nat.reduceBNe,Qk,Qe,Value.cells,am,mm,keep, f_, fo_, aint, lv, ul, uc, ut, u0, u1, e0, k1, k2]; refine hK_ _ _ ?_; clear hK_ K_; repeat first | refine QL ?_ | refine QM ?_)))
  repeat first | refine Qo ?_ | refine Qn ?_
  refine awp_if false rfl (by first | (simp only [aeval_tmp, look, ↓reduceIte, Nat.reduceEqDiff]; try rfl) | rfl) (fun h => absurd h (by decide)) (fun _ => ?_)
  iterate 1 ((repeat first | refine Qo ?_ | refine Qn ?_); (first | (refine QK (by kernel_rfl) ?_; intro K_ hK_; simp -implicitDefEqProofs (disch := (try simp only [sl]); try omega) only [sm,QJ,Qj,Qi,Qq,QC,Qz,bd,QF,look,aput,Qm,QA,ty,↓reduceIte,Nat.reduceEqDiff,Nat.reduceAdd,Nat.reduceSub,Nat.reduceMul,Int.reduceLT,Int.reduceLE,Int.reduceNeg,Int.reduceToNat,reduceCtorEq,Nat.reduceBEq,Nat.reduceBNe,Qk,Qe,Value.cells,am,mm,keep, f_, fo_, aint, lv, ul, uc, ut, u0, u1]; refine hK_ _ _ ?_; clear hK_ K_; repeat first | refine QL ?_ | refine QM ?_) | (refine awp_skip ?_; repeat first | refine QL ?_ | refine QM ?_)))
  (repeat first | refine Qo ?_ | refine Qn ?_); refine QK (by kernel_rfl) ?_; intro K_ hK_; simp -implicitDefEqProofs (disch := (try simp only [sl]); try omega) only [sm,QJ,Qj,Qi,Qq,QC,Qz,bd,QF,look,aput,Qm,QA,ty,↓reduceIte,Nat.reduceEqDiff,Nat.reduceAdd,Nat.reduceSub,Nat.reduceMul,Int.reduceLT,Int.reduceLE,Int.reduceNeg,Int.reduceToNat,reduceCtorEq,Nat.reduceBEq,Nat.reduceBNe,Qk,Qe,Value.cells,am,mm,keep, f_, fo_, aint, lv, ul, uc, ut, u0, u1]
  refine ACalls.mono (refhas_calls v r u H1 (hv.mono xH1) (by omega) hr hu) ?_
  rintro _ H2 ⟨rfl, e2⟩
  replace N_ := N_.grow e2
  clear fo_; have fo_ := f_; clear f_
  have f_ := N_.has
  simp only [Has] at f_
  by_cases hmem : u ∈ r
  · have hE : rE r u = 7 := by rw [rE, if_pos hok, if_pos hmem]
    have hL : rL r u = r := by rw [rL, hE, if_neg (by decide)]
    try simp -implicitDefEqProofs (disch := (try simp only [sl]); try omega) only [sm,QJ,Qj,Qi,Qq,QC,Qz,bd,QF,look,aput,Qm,QA,ty,↓reduceIte,Nat.reduceEqDiff,Nat.reduceAdd,Nat.reduceSub,Nat.reduceMul,Int.reduceLT,Int.reduceLE,Int.reduceNeg,Int.reduceToNat,reduceCtorEq,Nat.reduceBEq,Nat.reduceBNe,Qk,Qe,Value.cells,am,mm,keep, f_, fo_, aint, lv, ul, uc, ut, u0, u1, decide_eq_true hmem]
    try (refine hK_ _ _ ?_; clear hK_ K_; repeat first | refine QL ?_ | refine QM ?_)
    repeat first | refine Qo ?_ | refine Qn ?_
    refine awp_if true rfl (by first | (simp only [aeval_tmp, look, ↓reduceIte, Nat.reduceEqDiff]; try rfl) | rfl) (fun _ => ?_) (fun h => absurd h (by decide))
    iterate 1 ((repeat first | refine Qo ?_ | refine Qn ?_); (first | (refine QK (by kernel_rfl) ?_; intro K_ hK_; simp -implicitDefEqProofs (disch := (try simp only [sl]); try omega) only [sm,QJ,Qj,Qi,Qq,QC,bd,look,aput,ty,↓reduceIte,Nat.reduceEqDiff,Nat.reduceAdd,Nat.reduceSub,Nat.reduceMul,Int.reduceLT,Int.reduceLE,Int.reduceNeg,Int.reduceToNat,reduceCtorEq,Nat.reduceBEq,Nat.reduceBNe,Qk,Qe,Value.cells,am,mm,keep, f_, fo_, aint, lv, ul, uc, ut, u0, u1]; refine hK_ _ _ ?_; clear hK_ K_; repeat first | refine QL ?_ | refine QM ?_)))
    first | refine awp_ret ?_ | skip
    show ∃ v, aresults Try.prog Try.f12 _ _ = some v ∧ _
    rw [aresults_2 (r := .tmp 4) (s := .tmp 5) (by kernel_rfl)]
    simp -implicitDefEqProofs (disch := (try simp only [sl]); try omega) only [aresult, Option.some.injEq, exists_eq_left', sm,Qj,Qi,Qq,QC,Qz,bd,QF,look,aput,QB,Qf,QA,ty,↓reduceIte,Nat.reduceEqDiff,Nat.reduceAdd,Nat.reduceSub,Nat.reduceMul,Int.reduceLT,Int.reduceLE,Int.reduceNeg,Int.reduceToNat,reduceCtorEq,Nat.reduceBEq,Nat.reduceBNe,Qk,Qe,Value.cells,am,mm,keep, f_, fo_, aint, lv, ul, uc, ut, u0, u1]
    rw [hE, hL]
    exact ⟨⟨_, rfl, hv.mono N_.ext, .inl ⟨rfl, rfl⟩⟩, N_.ext⟩
  have hE : rE r u = 0 := by rw [rE, if_pos hok, if_neg hmem]
  have hL : rL r u = insU r u := by rw [rL, if_pos hE]
  try simp -implicitDefEqProofs (disch := (try simp only [sl]); try omega) only [sm,QJ,Qj,Qi,Qq,QC,Qz,bd,QF,look,aput,Qm,QA,ty,↓reduceIte,Nat.reduceEqDiff,Nat.reduceAdd,Nat.reduceSub,Nat.reduceMul,Int.reduceLT,Int.reduceLE,Int.reduceNeg,Int.reduceToNat,reduceCtorEq,Nat.reduceBEq,Nat.reduceBNe,Qk,Qe,Value.cells,am,mm,keep, f_, fo_, aint, lv, ul, uc, ut, u0, u1, decide_eq_false hmem]
  try (refine hK_ _ _ ?_; clear hK_ K_; repeat first | refine QL ?_ | refine QM ?_)
  repeat first | refine Qo ?_ | refine Qn ?_
  refine awp_if false rfl (by first | (simp only [aeval_tmp, look, ↓reduceIte, Nat.reduceEqDiff]; try rfl) | rfl) (fun h => absurd h (by decide)) (fun _ => ?_)
  iterate 3 ((repeat first | refine Qo ?_ | refine Qn ?_); (first | (refine QK (by kernel_rfl) ?_; intro K_ hK_; simp -implicitDefEqProofs (disch := (try simp only [sl]); try omega) only [sm,QJ,Qj,Qi,Qq,QC,bd,look,aput,ty,↓reduceIte,Nat.reduceEqDiff,Nat.reduceAdd,Nat.reduceSub,Nat.reduceMul,Int.reduceLT,Int.reduceLE,Int.reduceNeg,Int.reduceToNat,reduceCtorEq,Nat.reduceBEq,Nat.reduceBNe,Qk,Qe,Value.cells,am,mm,keep, f_, fo_, aint, lv, ul, uc, ut, u0, u1]; refine hK_ _ _ ?_; clear hK_ K_; repeat first | refine QL ?_ | refine QM ?_) | (refine awp_skip ?_; repeat first | refine QL ?_ | refine QM ?_)))
  have x02 : Ext H H2 := N_.ext
  have NB := N_
  have ow := hv.mono x02
  repeat first | refine Qo ?_ | refine Qn ?_
  refine awp_forK [0, 3] (fun x : Nat × Value × Value × AH => [(8, I64 x.1), (6, x.2.1), (7, x.2.2.1)]) (fun x : Nat × Value × Value × AH => x.2.2.2) (fun x : Nat × Value × Value × AH => x.1 ≤ r.length ∧ OSn 2 H2.length x.2.2.2 x.2.1 (lowU (r.take x.1) u).length (flU (lowU (r.take x.1) u)) ∧ OSn 2 H2.length x.2.2.2 x.2.2.1 (highU (r.take x.1) u).length (flU (highU (r.take x.1) u)) ∧ Dj x.2.1 x.2.2.1 ∧ Ext H2 x.2.2.2) (fun x : Nat × Value × Value × AH => r.length - x.1) ((0, .slice none 0 0, .slice none 0 0, H2)) (⟨Nat.zero_le _, OSn.none _, OSn.none _, Dj.nil _, Ext.refl _⟩) (by repeat first | exact Forgets.nil | refine Forgets.cons (by first | (simp only [look, ↓reduceIte, Nat.reduceEqDiff]; done) | (simp only [look, ↓reduceIte, Nat.reduceEqDiff]; rfl) | simp [look]) ?_) rfl ?_
  rintro ⟨i, s, t, H5⟩ ⟨hi, os, ot, dj, x5⟩
  simp only [] at hi os ot dj x5 ⊢
  clear f_ N_ fo_
  have fo_ := True.intro
  have N_ := NB.grow x5
  have f_ := N_.has
  simp only [Has] at f_
  obtain ⟨n1, n2⟩ := low_lenU r u i
  have f1 := flU_length (lowU (r.take i) u)
  have f2 := flU_length (highU (r.take i) u)
  have hl5 := x5.length
  by_cases hlt : i < r.length
  · obtain ⟨g, o, e, cs, hve, hcs, hcc, hlen⟩ := ow.at (usc_hl r) i hlt
    cases hve
    have hcs5 := x5.cells hcs
    obtain ⟨st1, st2⟩ := low_stepU (u := u) hlt
    generalize r[i] = x at *
    have xl := usc_length x
    have xc := usc_cellv x
    have hii : IntKind.i64.wrap ((i : Int) + 1) = (i : Int) + 1 := wi64 _ (by omega) (by omega)
    iterate 1 ((repeat first | refine Qo ?_ | refine Qn ?_); (first | (refine QK (by kernel_rfl) ?_; intro K_ hK_; simp -implicitDefEqProofs (disch := (try simp only [sl]); try omega) only [sm,QJ,Qj,Qi,Qq,QC,bd,look,aput,QI,abin,anil,ty,↓reduceIte,Nat.reduceEqDiff,Nat.reduceAdd,Nat.reduceSub,Nat.reduceMul,Int.reduceLT,Int.reduceLE,Int.reduceNeg,Int.reduceToNat,reduceCtorEq,Nat.reduceBEq,Nat.reduceBNe,Qk,Qe,Value.cells,am,mm,keep, f_, fo_, aint, lv, ul, uc, ut, hcs5, hcc, hlen, xl, xc, hlt]; refine hK_ _ _ ?_; clear hK_ K_; repeat first | refine QL ?_ | refine QM ?_)))
    repeat first | refine Qo ?_ | refine Qn ?_
    refine awp_if true rfl (by first | (simp only [aeval_tmp, look, ↓reduceIte, Nat.reduceEqDiff]; try rfl) | rfl) (fun _ => ?_) (fun h => absurd h (by decide))
    iterate 1 ((repeat first | refine Qo ?_ | refine Qn ?_); (first | (refine awp_region_drawK (id := 9) [(0, []), (1, []), (2, []), (3, []), (4, []), (5, [])] mixed (by kernel_rfl) ?_; intro K_ hK_; simp -implicitDefEqProofs (disch := (try simp only [sl]); try omega) only [sm,aSel,Qu,Qv,Qw,Qx,Qy,Qj,Qi,Qq,QC,Qz,bd,QF,look,aput,Qm,Qb,QA,ty,↓reduceIte,Nat.reduceEqDiff,Nat.reduceAdd,Nat.reduceSub,Nat.reduceMul,Int.reduceLT,Int.reduceLE,Int.reduceNeg,Int.reduceToNat,reduceCtorEq,Nat.reduceBEq,Nat.reduceBNe,Qk,Qe,Value.cells,am,mm,keep, f_, fo_, aint, lv, ul, uc, ut, hcs5, hcc, hlen, xl, xc, hlt]; refine hK_ _ _ ?_; clear hK_ K_; repeat first | refine QL ?_ | refine QM ?_) | (refine awp_skip ?_; repeat first | refine QL ?_ | refine QM ?_)))
    (repeat first | refine Qo ?_ | refine Qn ?_); refine awp_region_drawK (id := 9) [(0, []), (1, []), (2, []), (3, []), (4, []), (5, [])] mixed (by kernel_rfl) ?_; intro K_ hK_; simp -implicitDefEqProofs (disch := (try simp only [sl]); try omega) only [sm,aSel,Qu,Qv,Qw,Qx,Qy,Qj,Qi,Qq,QC,Qz,bd,QF,look,aput,Qm,Qb,QA,ty,↓reduceIte,Nat.reduceEqDiff,Nat.reduceAdd,Nat.reduceSub,Nat.reduceMul,Int.reduceLT,Int.reduceLE,Int.reduceNeg,Int.reduceToNat,reduceCtorEq,Nat.reduceBEq,Nat.reduceBNe,Qk,Qe,Value.cells,am,mm,keep, f_, fo_, aint, lv, ul, uc, ut, hcs5, hcc, hlen, xl, xc, hlt]
    refine ACalls.mono (less_calls x u H5) ?_
    rintro _ H6 ⟨rfl, e6⟩
    have x6 : Ext H2 H6 := x5.trans e6
    have hl6 := x6.length
    have hcs6 := e6.cells hcs5
    have hu6 := e6.cells f_.1.2.2
    by_cases hb : ltU x u
    · obtain ⟨w1, w2⟩ := st1 hb
      obtain ⟨s6, H7, ha6, o6, k6, still⟩ := OSn.app1 (P := Try.prog) (t := 22) (tx := 22) (bytes := 16) (H := H6) (c := usc x) (by simp only [ty]) (by simp only [ty]) (os.mono e6) f1 xl xc (by decide) (by omega) (by omega) hl6
      have x7 : Ext H2 H7 := k6.ext (Nat.le_refl _) x6
      have o6' : OSn 2 H2.length H7 s6 (lowU (r.take (i + 1)) u).length (flU (lowU (r.take (i + 1)) u)) := by
        rw [w1, flU_snoc, List.length_append]; exact o6.low hl6
      have t6 : OSn 2 H2.length H7 t (highU (r.take (i + 1)) u).length (flU (highU (r.take (i + 1)) u)) := by
        rw [w2]; exact (ot.mono e6).still dj still
      try simp -implicitDefEqProofs (disch := (try simp only [sl]); try omega) only [sm,aSel,Qu,Qv,Qw,Qx,Qy,Qj,Qi,Qq,QC,Qz,bd,QF,look,aput,Qm,Qb,QA,ty,↓reduceIte,Nat.reduceEqDiff,Nat.reduceAdd,Nat.reduceSub,Nat.reduceMul,Int.reduceLT,Int.reduceLE,Int.reduceNeg,Int.reduceToNat,reduceCtorEq,Nat.reduceBEq,Nat.reduceBNe,Qk,Qe,Value.cells,am,mm,keep, aint, lv, ul, uc, ut, hcs6, hcc, hlen, xl, xc, hu6, decide_eq_true hb, hlt]
      try (refine hK_ _ _ ?_; clear hK_ K_; repeat first | refine QL ?_ | refine QM ?_)
      repeat first | refine Qo ?_ | refine Qn ?_
      refine awp_if true rfl (by first | (simp only [aeval_tmp, look, ↓reduceIte, Nat.reduceEqDiff]; try rfl) | rfl) (fun _ => ?_) (fun h => absurd h (by decide))
      iterate 2 ((repeat first | refine Qo ?_ | refine Qn ?_); (first | (refine QK (by kernel_rfl) ?_; intro K_ hK_; simp -implicitDefEqProofs (disch := (try simp only [sl]); try omega) only [sm,QJ,Qj,Qi,Qq,QC,Qz,bd,QF,look,aput,Qm,QI,abin,anil,Qb,QA,ty,↓reduceIte,Nat.reduceEqDiff,Nat.reduceAdd,Nat.reduceSub,Nat.reduceMul,Int.reduceLT,Int.reduceLE,Int.reduceNeg,Int.reduceToNat,reduceCtorEq,Nat.reduceBEq,Nat.reduceBNe,Qk,Qe,Value.cells,am,mm,keep, aint, lv, ul, uc, ut, hcs6, hcc, hlen, xl, xc, hu6, bda, ha6, hlt, hii]; refine hK_ _ _ ?_; clear hK_ K_; repeat first | refine QL ?_ | refine QM ?_)))
      refine ⟨(i + 1, s6, t, H7), ⟨by simp only []; omega, o6', t6, Dj.new o6 (ot.mono e6), x7⟩, (by repeat first | exact Forgets.nil | refine Forgets.cons (by first | (simp only [look, ↓reduceIte, Nat.reduceEqDiff]; done) | (simp only [look, ↓reduceIte, Nat.reduceEqDiff]; rfl) | simp [look, hii]) ?_), ?_⟩
      first | omega | exact ⟨rfl, by omega⟩ | exact ⟨rfl, by simp only []; omega⟩ | (simp only []; omega)
    · obtain ⟨w1, w2⟩ := st2 hb
      obtain ⟨s6, H7, ha6, o6, k6, still⟩ := OSn.app1 (P := Try.prog) (t := 22) (tx := 22) (bytes := 16) (H := H6) (c := usc x) (by simp only [ty]) (by simp only [ty]) (ot.mono e6) f2 xl xc (by decide) (by omega) (by omega) hl6
      have x7 : Ext H2 H7 := k6.ext (Nat.le_refl _) x6
      have o6' : OSn 2 H2.length H7 s6 (highU (r.take (i + 1)) u).length (flU (highU (r.take (i + 1)) u)) := by
        rw [w2, flU_snoc, List.length_append]; exact o6.low hl6
      have t6 : OSn 2 H2.length H7 s (lowU (r.take (i + 1)) u).length (flU (lowU (r.take (i + 1)) u)) := by
        rw [w1]; exact (os.mono e6).still dj.symm still
      try simp -implicitDefEqProofs (disch := (try simp only [sl]); try omega) only [sm,aSel,Qu,Qv,Qw,Qx,Qy,Qj,Qi,Qq,QC,Qz,bd,QF,look,aput,Qm,Qb,QA,ty,↓reduceIte,Nat.reduceEqDiff,Nat.reduceAdd,Nat.reduceSub,Nat.reduceMul,Int.reduceLT,Int.reduceLE,Int.reduceNeg,Int.reduceToNat,reduceCtorEq,Nat.reduceBEq,Nat.reduceBNe,Qk,Qe,Value.cells,am,mm,keep, aint, lv, ul, uc, ut, hcs6, hcc, hlen, xl, xc, hu6, decide_eq_false hb, hlt]
      try (refine hK_ _ _ ?_; clear hK_ K_; repeat first | refine QL ?_ | refine QM ?_)
      repeat first | refine Qo ?_ | refine Qn ?_
      refine awp_if false rfl (by first | (simp only [aeval_tmp, look, ↓reduceIte, Nat.reduceEqDiff]; try rfl) | rfl) (fun h => absurd h (by decide)) (fun _ => ?_)
      iterate 2 ((repeat first | refine Qo ?_ | refine Qn ?_); (first | (refine QK (by kernel_rfl) ?_; intro K_ hK_; simp -implicitDefEqProofs (disch := (try simp only [sl]); try omega) only [sm,QJ,Qj,Qi,Qq,QC,Qz,bd,QF,look,aput,Qm,QI,abin,anil,Qb,QA,ty,↓reduceIte,Nat.reduceEqDiff,Nat.reduceAdd,Nat.reduceSub,Nat.reduceMul,Int.reduceLT,Int.reduceLE,Int.reduceNeg,Int.reduceToNat,reduceCtorEq,Nat.reduceBEq,Nat.reduceBNe,Qk,Qe,Value.cells,am,mm,keep, aint, lv, ul, uc, ut, hcs6, hcc, hlen, xl, xc, hu6, bda, ha6, hlt, hii]; refine hK_ _ _ ?_; clear hK_ K_; repeat first | refine QL ?_ | refine QM ?_)))
      refine ⟨(i + 1, s, s6, H7), ⟨by simp only []; omega, t6, o6', (Dj.new o6 (os.mono e6)).symm, x7⟩, (by repeat first | exact Forgets.nil | refine Forgets.cons (by first | (simp only [look, ↓reduceIte, Nat.reduceEqDiff]; done) | (simp only [look, ↓reduceIte, Nat.reduceEqDiff]; rfl) | simp [look, hii]) ?_), ?_⟩
      first | omega | exact ⟨rfl, by omega⟩ | exact ⟨rfl, by simp only []; omega⟩ | (simp only []; omega)
  obtain rfl : i = r.length := by omega
  rw [List.take_length] at os ot f1 f2 n1 n2
  obtain ⟨s6, H6, ha6, o6, k6, still⟩ := OSn.app1 (P := Try.prog) (t := 22) (tx := 22) (bytes := 16) (H := H5) (c := usc u) (by simp only [ty]) (by simp only [ty]) os f1 ul uc (by decide) (by omega) (by omega) hl5
  have ot6 := ot.still dj still
  have x6 : Ext H2 H6 := k6.ext (Nat.le_refl _) x5
  obtain ⟨s7, H7, ha7, o7, k7⟩ := OSn.appS (P := Try.prog) (t := 22) (tx := 22) (bytes := 16) (H := H6) (by simp only [ty]) (by simp only [ty]) (o6.low hl5) (by rw [List.length_append, f1, ul]; omega) ot6.sln f2 (flU_cellv _) (by omega) (by omega) x6.length
  have x7 : Ext H2 H7 := k7.ext (Nat.le_refl _) x6
  have hcat : flU (lowU r u) ++ usc u ++ flU (highU r u) = flU (insU r u) := by simp [flU, insU]
  have hil : (lowU r u).length + 1 + (highU r u).length = (insU r u).length := by
    show _ = (lowU r u ++ u :: highU r u).length
    rw [List.length_append, List.length_cons]; omega
  rw [hcat, hil] at o7
  iterate 1 ((repeat first | refine Qo ?_ | refine Qn ?_); (first | (refine QK (by kernel_rfl) ?_; intro K_ hK_; simp -implicitDefEqProofs (disch := (try simp only [sl]); try omega) only [sm,QJ,Qj,Qi,Qq,QC,bd,look,aput,QI,abin,anil,ty,↓reduceIte,Nat.reduceEqDiff,Nat.reduceAdd,Nat.reduceSub,Nat.reduceMul,Int.reduceLT,Int.reduceLE,Int.reduceNeg,Int.reduceToNat,reduceCtorEq,Nat.reduceBEq,Nat.reduceBNe,Qk,Qe,Value.cells,am,mm,keep, f_, fo_, aint, lv, ul, uc, ut, hlt]; refine hK_ _ _ ?_; clear hK_ K_; repeat first | refine QL ?_ | refine QM ?_)))
  repeat first | refine Qo ?_ | refine Qn ?_
  refine awp_if false rfl (by first | (simp only [aeval_tmp, look, ↓reduceIte, Nat.reduceEqDiff]; try rfl) | rfl) (fun h => absurd h (by decide)) (fun _ => ?_)
  iterate 2 ((repeat first | refine Qo ?_ | refine Qn ?_); (first | (refine QK (by kernel_rfl) ?_; intro K_ hK_; simp -implicitDefEqProofs (disch := (try simp only [sl]); try omega) only [sm,QJ,Qj,Qi,Qq,QC,Qz,bd,QF,look,aput,Qm,QA,ty,↓reduceIte,Nat.reduceEqDiff,Nat.reduceAdd,Nat.reduceSub,Nat.reduceMul,Int.reduceLT,Int.reduceLE,Int.reduceNeg,Int.reduceToNat,reduceCtorEq,Nat.reduceBEq,Nat.reduceBNe,Qk,Qe,Value.cells,am,mm,keep, f_, fo_, aint, lv, ul, uc, ut, bda, ha6, ha7]; refine hK_ _ _ ?_; clear hK_ K_; repeat first | refine QL ?_ | refine QM ?_) | (refine awp_exit ?_; (repeat first | refine aThen_exit ?_ | refine aIn_out rfl ?_); refine aIn_here ?_; repeat first | refine QL ?_ | refine QM ?_)))
  first | refine awp_ret ?_ | skip
  show ∃ v, aresults Try.prog Try.f12 _ _ = some v ∧ _
  rw [aresults_2 (r := .tmp 4) (s := .tmp 5) (by kernel_rfl)]
  simp -implicitDefEqProofs (disch := (try simp only [sl]); try omega) only [aresult, Option.some.injEq, exists_eq_left', sm,Qj,Qi,Qq,QC,Qz,bd,QF,look,aput,QB,Qf,QA,ty,↓reduceIte,Nat.reduceEqDiff,Nat.reduceAdd,Nat.reduceSub,Nat.reduceMul,Int.reduceLT,Int.reduceLE,Int.reduceNeg,Int.reduceToNat,reduceCtorEq,Nat.reduceBEq,Nat.reduceBNe,Qk,Qe,Value.cells,am,mm,keep, f_, fo_, aint, lv, ul, uc, ut]
  rw [hE, hL]
  exact ⟨⟨_, rfl, o7.sln, Or.inr fun q o n e k => by have := (o7.lt _ _ _ _ k).2; have := x02.length; omega⟩, x02.trans x7⟩
end Go.Proofs.Ytldfnfpinemedaa
