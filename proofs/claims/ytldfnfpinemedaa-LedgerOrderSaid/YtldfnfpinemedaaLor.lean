/- The statement LedgerOrder: walked. -/
import Derived.Test.YtldfnfpinemedaaLea
namespace Go.Proofs.Ytldfnfpinemedaa
open Go Go.RowKit
--hide
set_option linter.unusedSimpArgs false
set_option linter.unusedVariables false
set_option maxRecDepth 4000
/-- Two ledgers that share nothing. -/
def Apart (p1 : Nat) (w1 : Value) (p2 : Nat) (w2 : Value) : Prop := p1 ≠ p2 ∧ (∀ o n e, w1 ≠ .slice (some ⟨p2, o, none⟩) n e) ∧ (∀ o n e, w2 ≠ .slice (some ⟨p1, o, none⟩) n e) ∧ ∀ q o n e, w1 = .slice (some ⟨q, o, none⟩) n e → ∀ o' n' e', w2 ≠ .slice (some ⟨q, o', none⟩) n' e'
theorem Apart.symm {p1 p2 : Nat} {w1 w2 : Value} (h : Apart p1 w1 p2 w2) : Apart p2 w2 p1 w1 := ⟨fun e => h.1 e.symm, h.2.2.1, h.2.1, fun q o n e k o' n' e' k' => h.2.2.2 q o' n' e' k' o n e k⟩
/-- What one ledger does leaves another one as it is. -/
theorem Upd.apart {b1 b2 p1 p2 : Nat} {w1 w2 w1' : Value} {L1' L2 : List Rn} {H H' : AH} (h : Upd b1 p1 w1 H w1' L1' H') (a : Apart p1 w1 p2 w2) (h2 : LdI b2 p2 H w2 L2) : LdI b2 p2 H' w2 L2 ∧ Apart p1 w1' p2 w2 := by
  have hp2 := got_lt h2.1
  refine ⟨⟨h.only _ _ (fun e => a.1 e.symm) a.2.1 h2.1, ?_, h2.2.2.1, h2.2.2.2⟩, a.1, fun o n e k => ?_, a.2.2.1, fun q o n e k o' n' e' k' => ?_⟩
  · rcases h2.2.1 with d | ⟨g, C, rfl, d1, d2⟩
    · exact .inl d
    · refine .inr ⟨g, C, rfl, h.only _ _ (fun e => a.2.2.1 0 _ _ (by rw [e])) (fun o n e k => a.2.2.2 _ _ _ _ k _ _ _ rfl) d1, d2⟩
  · rcases h.frm _ _ _ _ k with h1 | ⟨o', n', e', h1⟩
    · omega
    · exact a.2.1 _ _ _ h1
  · rcases h.frm _ _ _ _ k with h1 | ⟨o1, n1, e1, h1⟩
    · have := (h2.at _ _ _ _ k').1; omega
    · exact a.2.2.2 _ _ _ _ h1 _ _ _ k'
/-- What a ledger has, once uses were added. -/
def addAll (L : List Rn) (l : List Us) : List Rn := l.foldl adL L
theorem CI.adls {L : List Rn} {r : List Us} (h : CI L r) {u : Us} (h0 : 0 ≤ u.1) : ∃ r', CI (adL L u) r' ∧ r'.length ≤ r.length + 1 ∧ ∀ v, memR (adL L u) v ↔ memR L v ∨ (okU u ∧ v = u) := by
  by_cases hE : adE L u = 0
  · obtain ⟨c4, hn, ho⟩ := h.adl h0 hE
    rw [adL, if_pos hE]
    refine ⟨_, c4, by rw [insU_len]; exact Nat.le_refl _, fun v => ?_⟩
    rw [(add_spec h.1 ho h0 hn).2 v]
    constructor
    · rintro (h | h)
      · exact .inr ⟨ho, h⟩
      · exact .inl h
    · rintro (h | h)
      · exact .inr h
      · exact .inl h.2
  · rw [adL, if_neg hE]
    refine ⟨r, h, by omega, fun v => ⟨fun k => .inl k, ?_⟩⟩
    rintro (k | ⟨ho, rfl⟩)
    · exact k
    · unfold adE at hE
      rw [if_pos ho] at hE
      split at hE
      · assumption
      · exact absurd rfl hE
theorem addAll_spec : ∀ (l : List Us) (L : List Rn) (r : List Us), CI L r → (∀ u ∈ l, 0 ≤ u.1) → ∃ r', CI (addAll L l) r' ∧ r'.length ≤ r.length + l.length ∧ ∀ v, memR (addAll L l) v ↔ memR L v ∨ (okU v ∧ v ∈ l)
  | [], L, r, h, _ => ⟨r, h, Nat.le_refl _, fun v => ⟨fun k => .inl k, fun k => k.elim id (fun h => absurd h.2 List.not_mem_nil)⟩⟩
  | u :: t, L, r, h, hr => by
    obtain ⟨r1, a1, a2, a3⟩ := h.adls (hr u List.mem_cons_self)
    obtain ⟨r2, b1, b2, b3⟩ := addAll_spec t (adL L u) r1 a1 (fun x hx => hr x (List.mem_cons_of_mem _ hx))
    refine ⟨r2, b1, by rw [List.length_cons]; omega, fun v => ?_⟩
    show memR (addAll (adL L u) t) v ↔ _
    rw [b3 v, a3 v, List.mem_cons, or_assoc]
    constructor
    · rintro (h | ⟨h1, rfl⟩ | h)
      · exact .inl h
      · exact .inr ⟨h1, .inl rfl⟩
      · exact .inr ⟨h.1, .inr h.2⟩
    · rintro (h | ⟨h1, rfl | h2⟩)
      · exact .inl h
      · exact .inr (.inl ⟨h1, rfl⟩)
      · exact .inr (.inr ⟨h1, h2⟩)
theorem CI.same {L L' : List Rn} {r r' : List Us} (h : CI L r) (h' : CI L' r') (e : ∀ u, memR L u ↔ memR L' u) : L = L' := by
  have : r = r' := srt_uniq h.2.1 h'.2.1 fun u => (h.2.2 u).trans ((e u).trans (h'.2.2 u).symm)
  rw [← h.runs, ← h'.runs, this]
/-- Ranges of epochs. -/
theorem ep_rng {L : List Rn} (hc : ∀ r ∈ L, okR r) (h : ∀ u, memR L u → u.1 < 4294967296) : ∀ r ∈ L, r.1 < 4294967296 := fun r hr => by
  have h1 : 1 ≤ r.2.2 := (hc r hr).2.2.1
  refine h (r.1, r.2.1) ⟨r, hr, rfl, Int.le_refl _, ?_⟩
  show r.2.1 < r.2.1 + r.2.2
  omega
theorem LdI.low {b c p : Nat} {H : AH} {w : Value} {L : List Rn} (h : LdI b p H w L) (hc : c ≤ b) : LdI c p H w L := ⟨h.1, h.2.1.low hc, by have := h.2.2.1; omega, h.2.2.2⟩
theorem addAll_snoc (L : List Rn) (l : List Us) (u : Us) : addAll L (l ++ [u]) = adL (addAll L l) u := by simp [addAll]
set_option maxHeartbeats 16000000 in
theorem leorder_law : ALaw Try.prog 4 [22] := by
  intro H vs hro hlen hv
  match vs, hlen with
  | [v0], _ =>
  obtain ⟨l, hl, hm, hr⟩ := uses_arg (hv 0 _ v0 rfl rfl)
  have lv := alen_slnU (P := Try.prog) (T := 22) (by simp only [ty]) hl
  have hii : ∀ n : Int, (n == n) = true := fun n => by simp
  have hnn : ∀ n : Int, (n != n) = false := fun n => by simp
  clear hv
  have fo_ : True := trivial
  have N_ := Now.start H
  have f_ := N_.has
  simp only [Has] at f_
  refine acalls_of_body Try.func4 rfl Try.ntmps4 (by simp) ?_
  simp only [argsT, Nat.reduceAdd]
  iterate 1 ((repeat first | refine Qo ?_ | refine Qn ?_); (first | (refine QK (by kernel_rfl) ?_; intro K_ hK_; simp -implicitDefEqProofs (disch := (try simp only [sl]); try omega) only [sm,QJ,Qj,Qi,Qq,QC,bd,look,aput,Qm,ty,↓reduceIte,Nat.reduceEqDiff,Nat.reduceAdd,Nat.reduceSub,Nat.reduceMul,Int.reduceLT,Int.reduceLE,Int.reduceNeg,Int.reduceToNat,reduceCtorEq,Nat.reduceBEq,Nat.reduceBNe,Qk,Qe,Value.cells,am,mm,keep, f_, fo_, aint, lv, hii]; refine hK_ _ _ ?_; clear hK_ K_; repeat first | refine QL ?_ | refine QM ?_)))
  (repeat first | refine Qo ?_ | refine Qn ?_); refine QK (by kernel_rfl) ?_; intro K_ hK_; simp -implicitDefEqProofs (disch := (try simp only [sl]); try omega) only [sm,QJ,Qj,Qi,Qq,QC,bd,look,aput,Qm,ty,↓reduceIte,Nat.reduceEqDiff,Nat.reduceAdd,Nat.reduceSub,Nat.reduceMul,Int.reduceLT,Int.reduceLE,Int.reduceNeg,Int.reduceToNat,reduceCtorEq,Nat.reduceBEq,Nat.reduceBNe,Qk,Qe,Value.cells,am,mm,keep, f_, fo_, aint, lv, hii]
  refine ACalls.mono (lfar_calls v0 l H hl) ?_
  rintro _ G ⟨rfl, rfl⟩
  by_cases hfar : (l.length : Int) > 100
  · try simp -implicitDefEqProofs (disch := (try simp only [sl]); try omega) only [sm,QJ,Qj,Qi,Qq,QC,bd,look,aput,Qm,ty,↓reduceIte,Nat.reduceEqDiff,Nat.reduceAdd,Nat.reduceSub,Nat.reduceMul,Int.reduceLT,Int.reduceLE,Int.reduceNeg,Int.reduceToNat,reduceCtorEq,Nat.reduceBEq,Nat.reduceBNe,Qk,Qe,Value.cells,am,mm,keep, f_, fo_, aint, lv, hii, decide_eq_true hfar]
    try (refine hK_ _ _ ?_; clear hK_ K_; repeat first | refine QL ?_ | refine QM ?_)
    repeat first | refine Qo ?_ | refine Qn ?_
    refine awp_if true rfl (by first | (simp only [aeval_tmp, look, ↓reduceIte, Nat.reduceEqDiff]; try rfl) | rfl) (fun _ => ?_) (fun h => absurd h (by decide))
    (repeat first | refine Qo ?_ | refine Qn ?_); refine QK (by kernel_rfl) ?_; intro K_ hK_; simp -implicitDefEqProofs (disch := (try simp only [sl]); try omega) only [sm,QJ,Qj,Qi,Qq,QC,bd,look,aput,Qm,ty,↓reduceIte,Nat.reduceEqDiff,Nat.reduceAdd,Nat.reduceSub,Nat.reduceMul,Int.reduceLT,Int.reduceLE,Int.reduceNeg,Int.reduceToNat,reduceCtorEq,Nat.reduceBEq,Nat.reduceBNe,Qk,Qe,Value.cells,am,mm,keep, f_, fo_, aint, lv, hii]
    refine ACalls.mono (lalive_calls _) ?_
    rintro _ H3 ⟨rfl, e3⟩
    try simp -implicitDefEqProofs (disch := (try simp only [sl]); try omega) only [sm,QJ,Qj,Qi,Qq,QC,bd,look,aput,Qm,ty,↓reduceIte,Nat.reduceEqDiff,Nat.reduceAdd,Nat.reduceSub,Nat.reduceMul,Int.reduceLT,Int.reduceLE,Int.reduceNeg,Int.reduceToNat,reduceCtorEq,Nat.reduceBEq,Nat.reduceBNe,Qk,Qe,Value.cells,am,mm,keep, f_, fo_, aint, lv, hii]
    try (refine hK_ _ _ ?_; clear hK_ K_; repeat first | refine QL ?_ | refine QM ?_)
    first | refine awp_ret ?_ | skip
    show ∃ v, aresults Try.prog Try.f4 _ _ = some v ∧ _
    rw [aresults_1 (r := .tmp 2) (by kernel_rfl)]
    simp -implicitDefEqProofs (disch := (try simp only [sl]); try omega) only [aresult, Option.some.injEq, exists_eq_left', sm,Qj,Qi,Qq,QC,Qz,bd,QF,look,aput,QB,Qf,QA,ty,↓reduceIte,Nat.reduceEqDiff,Nat.reduceAdd,Nat.reduceSub,Nat.reduceMul,Int.reduceLT,Int.reduceLE,Int.reduceNeg,Int.reduceToNat,reduceCtorEq,Nat.reduceBEq,Nat.reduceBNe,Qk,Qe,Value.cells,am,mm,keep, f_, fo_, aint, lv, hii]
  try simp -implicitDefEqProofs (disch := (try simp only [sl]); try omega) only [sm,QJ,Qj,Qi,Qq,QC,bd,look,aput,Qm,ty,↓reduceIte,Nat.reduceEqDiff,Nat.reduceAdd,Nat.reduceSub,Nat.reduceMul,Int.reduceLT,Int.reduceLE,Int.reduceNeg,Int.reduceToNat,reduceCtorEq,Nat.reduceBEq,Nat.reduceBNe,Qk,Qe,Value.cells,am,mm,keep, f_, fo_, aint, lv, hii, decide_eq_false hfar]
  try (refine hK_ _ _ ?_; clear hK_ K_; repeat first | refine QL ?_ | refine QM ?_)
  repeat first | refine Qo ?_ | refine Qn ?_
  refine awp_if false rfl (by first | (simp only [aeval_tmp, look, ↓reduceIte, Nat.reduceEqDiff]; try rfl) | rfl) (fun h => absurd h (by decide)) (fun _ => ?_)
  iterate 1 ((repeat first | refine Qo ?_ | refine Qn ?_); (first | (refine QK (by kernel_rfl) ?_; intro K_ hK_; simp -implicitDefEqProofs (disch := (try simp only [sl]); try omega) only [sm,QJ,Qj,Qi,Qq,QC,bd,look,aput,Qm,ty,↓reduceIte,Nat.reduceEqDiff,Nat.reduceAdd,Nat.reduceSub,Nat.reduceMul,Int.reduceLT,Int.reduceLE,Int.reduceNeg,Int.reduceToNat,reduceCtorEq,Nat.reduceBEq,Nat.reduceBNe,Qk,Qe,Value.cells,am,mm,keep, f_, fo_, aint, lv, hii]; refine hK_ _ _ ?_; clear hK_ K_; repeat first | refine QL ?_ | refine QM ?_) | (refine awp_skip ?_; repeat first | refine QL ?_ | refine QM ?_)))
  (repeat first | refine Qo ?_ | refine Qn ?_); refine QK (by kernel_rfl) ?_; intro K_ hK_; simp -implicitDefEqProofs (disch := (try simp only [sl]); try omega) only [sm,QJ,Qj,Qi,Qq,QC,bd,look,aput,Qm,ty,↓reduceIte,Nat.reduceEqDiff,Nat.reduceAdd,Nat.reduceSub,Nat.reduceMul,Int.reduceLT,Int.reduceLE,Int.reduceNeg,Int.reduceToNat,reduceCtorEq,Nat.reduceBEq,Nat.reduceBNe,Qk,Qe,Value.cells,am,mm,keep, f_, fo_, aint, lv, hii]
  refine ACalls.mono (new_calls G) ?_
  rintro _ H1 ⟨rfl, h1, e1, l1⟩
  try simp -implicitDefEqProofs (disch := (try simp only [sl]); try omega) only [sm,QJ,Qj,Qi,Qq,QC,bd,look,aput,Qm,ty,↓reduceIte,Nat.reduceEqDiff,Nat.reduceAdd,Nat.reduceSub,Nat.reduceMul,Int.reduceLT,Int.reduceLE,Int.reduceNeg,Int.reduceToNat,reduceCtorEq,Nat.reduceBEq,Nat.reduceBNe,Qk,Qe,Value.cells,am,mm,keep, f_, fo_, aint, lv, hii]
  try (refine hK_ _ _ ?_; clear hK_ K_; repeat first | refine QL ?_ | refine QM ?_)
  refine ACalls.mono (new_calls H1) ?_
  rintro _ H2 ⟨rfl, h2, e2, l2⟩
  have g1 := h1.mono e2
  have g2 := h2.low e1.length
  have hap : Apart G.length (.slice none 0 0) H1.length (.slice none 0 0) := ⟨by omega, fun o n e k => (by cases k), fun o n e k => (by cases k), fun q o n e k => (by cases k)⟩
  have hpos : ∀ (l' : List Us), (∀ u ∈ l', u ∈ l) → ∀ u ∈ l', 0 ≤ u.1 := fun l' h u hu => (hr u (h u hu)).1
  try simp -implicitDefEqProofs (disch := (try simp only [sl]); try omega) only [sm,QJ,Qj,Qi,Qq,QC,bd,look,aput,Qm,ty,↓reduceIte,Nat.reduceEqDiff,Nat.reduceAdd,Nat.reduceSub,Nat.reduceMul,Int.reduceLT,Int.reduceLE,Int.reduceNeg,Int.reduceToNat,reduceCtorEq,Nat.reduceBEq,Nat.reduceBNe,Qk,Qe,Value.cells,am,mm,keep, f_, fo_, aint, lv, hii]
  try (refine hK_ _ _ ?_; clear hK_ K_; repeat first | refine QL ?_ | refine QM ?_)
  iterate 1 ((repeat first | refine Qo ?_ | refine Qn ?_); (first | (refine QK (by kernel_rfl) ?_; intro K_ hK_; simp -implicitDefEqProofs (disch := (try simp only [sl]); try omega) only [sm,QJ,Qj,Qi,Qq,QC,bd,look,aput,ty,↓reduceIte,Nat.reduceEqDiff,Nat.reduceAdd,Nat.reduceSub,Nat.reduceMul,Int.reduceLT,Int.reduceLE,Int.reduceNeg,Int.reduceToNat,reduceCtorEq,Nat.reduceBEq,Nat.reduceBNe,Qk,Qe,Value.cells,am,mm,keep, f_, fo_, aint, lv, hii]; refine hK_ _ _ ?_; clear hK_ K_; repeat first | refine QL ?_ | refine QM ?_)))
  repeat first | refine Qo ?_ | refine Qn ?_
  refine awp_forK [0, 3, 4, 15] (fun x : Nat × Value × Value × AH => [(16, I64 x.1)]) (fun x : Nat × Value × Value × AH => x.2.2.2) (fun x : Nat × Value × Value × AH => x.1 ≤ l.length ∧ LdI G.length G.length x.2.2.2 x.2.1 (addAll [] (l.take x.1)) ∧ LdI G.length H1.length x.2.2.2 x.2.2.1 (addAll [] (l.reverse.take x.1)) ∧ Apart G.length x.2.1 H1.length x.2.2.1 ∧ Ext G x.2.2.2) (fun x : Nat × Value × Value × AH => l.length - x.1) ((0, .slice none 0 0, .slice none 0 0, H2)) (⟨Nat.zero_le _, g1, g2, hap, e1.trans e2⟩) (by repeat first | exact Forgets.nil | refine Forgets.cons (by first | (simp only [look, ↓reduceIte, Nat.reduceEqDiff]; done) | (simp only [look, ↓reduceIte, Nat.reduceEqDiff]; rfl) | simp [look]) ?_) rfl ?_
  rintro ⟨i, w1, w2, H3⟩ ⟨hi, d1, d2, ap, x3⟩
  simp only [] at hi d1 d2 ap x3 ⊢
  clear f_ fo_ N_
  have N_ : Now G H3 [] := ⟨x3, trivial⟩
  have f_ := N_.has
  simp only [Has] at f_
  have fo_ := True.intro
  have hsr1 : ∀ u ∈ l.take i, u ∈ l := fun u hu => List.mem_of_mem_take hu
  have hsr2 : ∀ u ∈ l.reverse.take i, u ∈ l := fun u hu => List.mem_reverse.1 (List.mem_of_mem_take hu)
  obtain ⟨r1, ca, la, -⟩ := addAll_spec (l.take i) [] [] CI.nil (hpos _ hsr1)
  obtain ⟨r2, cb, lb, -⟩ := addAll_spec (l.reverse.take i) [] [] CI.nil (hpos _ hsr2)
  have hfa := ca.few
  have hfb := cb.few
  have hla : (l.take i).length ≤ 100 := by rw [List.length_take]; omega
  have hlb : (l.reverse.take i).length ≤ 100 := by rw [List.length_take, List.length_reverse]; omega
  rw [List.length_nil] at la lb
  by_cases hlt : i < l.length
  · have hj : l.length - 1 - i < l.length := by omega
    have hrv : l.reverse[i]'(by rw [List.length_reverse]; exact hlt) = l[l.length - 1 - i] := List.getElem_reverse ..
    have ht1 : addAll [] (l.take (i + 1)) = adL (addAll [] (l.take i)) l[i] := by rw [List.take_succ_eq_append_getElem hlt, addAll_snoc]
    have ht2 : addAll [] (l.reverse.take (i + 1)) = adL (addAll [] (l.reverse.take i)) l[l.length - 1 - i] := by
      rw [List.take_succ_eq_append_getElem (by rw [List.length_reverse]; exact hlt), addAll_snoc, hrv]
    obtain ⟨g, o, e, cs, hve, hcs, hcc, hlen⟩ := hl.at (usc_hl l) i hlt
    obtain ⟨g', o', e', cs', hve', hcs', hcc', hlen'⟩ := hl.at (usc_hl l) (l.length - 1 - i) hj
    cases hve
    cases hve'
    rw [hcs] at hcs'
    cases hcs'
    have p1 := (hr _ (List.getElem_mem hlt)).1
    have p2 := (hr _ (List.getElem_mem hj)).1
    generalize l[i] = u1 at *
    generalize l[l.length - 1 - i] = u2 at *
    have hcs3 := x3.cells hcs
    have ul := usc_length u1
    have uc := usc_cellv u1
    have ul2 := usc_length u2
    have uc2 := usc_cellv u2
    have hii2 : IntKind.i64.wrap ((i : Int) + 1) = (i : Int) + 1 := wi64 _ (by omega) (by omega)
    have hw1 : IntKind.i64.wrap ((l.length : Int) - 1) = ((l.length - 1 : Nat) : Int) := by rw [wi64 _ (by omega) (by omega)]; omega
    have hw2 : IntKind.i64.wrap (((l.length - 1 : Nat) : Int) - (i : Int)) = ((l.length - 1 - i : Nat) : Int) := by rw [wi64 _ (by omega) (by omega)]; omega
    iterate 1 ((repeat first | refine Qo ?_ | refine Qn ?_); (first | (refine QK (by kernel_rfl) ?_; intro K_ hK_; simp -implicitDefEqProofs (disch := (try simp only [sl]); try omega) only [sm,QJ,Qj,Qi,Qq,QC,bd,look,aput,QI,abin,anil,ty,↓reduceIte,Nat.reduceEqDiff,Nat.reduceAdd,Nat.reduceSub,Nat.reduceMul,Int.reduceLT,Int.reduceLE,Int.reduceNeg,Int.reduceToNat,reduceCtorEq,Nat.reduceBEq,Nat.reduceBNe,Qk,Qe,Value.cells,am,mm,keep, f_, fo_, aint, lv, hcs3, hcc, hcc', hlen, hlen', ul, uc, ul2, uc2, hw1, hw2, hj, hlt]; refine hK_ _ _ ?_; clear hK_ K_; repeat first | refine QL ?_ | refine QM ?_)))
    repeat first | refine Qo ?_ | refine Qn ?_
    refine awp_if true rfl (by first | (simp only [aeval_tmp, look, ↓reduceIte, Nat.reduceEqDiff]; try rfl) | rfl) (fun _ => ?_) (fun h => absurd h (by decide))
    iterate 2 ((repeat first | refine Qo ?_ | refine Qn ?_); (first | (refine QK (by kernel_rfl) ?_; intro K_ hK_; simp -implicitDefEqProofs (disch := (try simp only [sl]); try omega) only [sm,QJ,Qj,Qi,Qq,QC,Qz,bd,QF,look,aput,Qm,Qb,QA,ty,↓reduceIte,Nat.reduceEqDiff,Nat.reduceAdd,Nat.reduceSub,Nat.reduceMul,Int.reduceLT,Int.reduceLE,Int.reduceNeg,Int.reduceToNat,reduceCtorEq,Nat.reduceBEq,Nat.reduceBNe,Qk,Qe,Value.cells,am,mm,keep, f_, fo_, aint, lv, hcs3, hcc, hcc', hlen, hlen', ul, uc, ul2, uc2, hw1, hw2, hj, hlt]; refine hK_ _ _ ?_; clear hK_ K_; repeat first | refine QL ?_ | refine QM ?_) | (refine awp_skip ?_; repeat first | refine QL ?_ | refine QM ?_)))
    (repeat first | refine Qo ?_ | refine Qn ?_); refine QK (by kernel_rfl) ?_; intro K_ hK_; simp -implicitDefEqProofs (disch := (try simp only [sl]); try omega) only [sm,QJ,Qj,Qi,Qq,QC,Qz,bd,QF,look,aput,Qm,Qb,QA,ty,↓reduceIte,Nat.reduceEqDiff,Nat.reduceAdd,Nat.reduceSub,Nat.reduceMul,Int.reduceLT,Int.reduceLE,Int.reduceNeg,Int.reduceToNat,reduceCtorEq,Nat.reduceBEq,Nat.reduceBNe,Qk,Qe,Value.cells,am,mm,keep, f_, fo_, aint, lv, hcs3, hcc, hcc', hlen, hlen', ul, uc, ul2, uc2, hw1, hw2, hj, hlt]
    refine ACalls.mono (add_calls G.length G.length w1 _ u1 H3 d1 (by omega) ca.1 p1 x3.length) ?_
    rintro _ H4 ⟨rfl, w4, U4⟩
    obtain ⟨d2', ap'⟩ := U4.apart ap d2
    have x4 : Ext G H4 := U4.keep d1 x3 (Nat.le_refl _)
    have hcs4 := x4.cells hcs
    try simp -implicitDefEqProofs (disch := (try simp only [sl]); try omega) only [sm,QJ,Qj,Qi,Qq,QC,Qz,bd,QF,look,aput,Qm,Qb,QA,ty,↓reduceIte,Nat.reduceEqDiff,Nat.reduceAdd,Nat.reduceSub,Nat.reduceMul,Int.reduceLT,Int.reduceLE,Int.reduceNeg,Int.reduceToNat,reduceCtorEq,Nat.reduceBEq,Nat.reduceBNe,Qk,Qe,Value.cells,am,mm,keep, f_, fo_, aint, lv, hcs4, hcc, hcc', hlen, hlen', ul, uc, ul2, uc2, hw1, hw2, hj]
    try (refine hK_ _ _ ?_; clear hK_ K_; repeat first | refine QL ?_ | refine QM ?_)
    (repeat first | refine Qo ?_ | refine Qn ?_); refine QK (by kernel_rfl) ?_; intro K_ hK_; simp -implicitDefEqProofs (disch := (try simp only [sl]); try omega) only [sm,QJ,Qj,Qi,Qq,QC,Qz,bd,QF,look,aput,Qm,QI,abin,anil,Qb,QA,ty,↓reduceIte,Nat.reduceEqDiff,Nat.reduceAdd,Nat.reduceSub,Nat.reduceMul,Int.reduceLT,Int.reduceLE,Int.reduceNeg,Int.reduceToNat,reduceCtorEq,Nat.reduceBEq,Nat.reduceBNe,Qk,Qe,Value.cells,am,mm,keep, f_, fo_, aint, lv, hcs4, hcc, hcc', hlen, hlen', ul, uc, ul2, uc2, hw1, hw2, hj, hlt]
    refine ACalls.mono (add_calls H1.length G.length w2 _ u2 H4 d2' (by omega) cb.1 p2 x4.length) ?_
    rintro _ H5 ⟨rfl, w5, U5⟩
    obtain ⟨d1', ap2⟩ := U5.apart ap'.symm U4.ld
    have x5 : Ext G H5 := U5.keep d2' x4 (Nat.le_refl _)
    try simp -implicitDefEqProofs (disch := (try simp only [sl]); try omega) only [sm,QJ,Qj,Qi,Qq,QC,Qz,bd,QF,look,aput,Qm,QI,abin,anil,Qb,QA,ty,↓reduceIte,Nat.reduceEqDiff,Nat.reduceAdd,Nat.reduceSub,Nat.reduceMul,Int.reduceLT,Int.reduceLE,Int.reduceNeg,Int.reduceToNat,reduceCtorEq,Nat.reduceBEq,Nat.reduceBNe,Qk,Qe,Value.cells,am,mm,keep, f_, fo_, aint, lv, hcs4, hcc, hcc', hlen, hlen', ul, uc, ul2, uc2, hw1, hw2, hj]
    try (refine hK_ _ _ ?_; clear hK_ K_; repeat first | refine QL ?_ | refine QM ?_)
    iterate 1 ((repeat first | refine Qo ?_ | refine Qn ?_); (first | (refine QK (by kernel_rfl) ?_; intro K_ hK_; simp -implicitDefEqProofs (disch := (try simp only [sl]); try omega) only [sm,QJ,Qj,Qi,Qq,QC,bd,look,aput,QI,abin,anil,ty,↓reduceIte,Nat.reduceEqDiff,Nat.reduceAdd,Nat.reduceSub,Nat.reduceMul,Int.reduceLT,Int.reduceLE,Int.reduceNeg,Int.reduceToNat,reduceCtorEq,Nat.reduceBEq,Nat.reduceBNe,Qk,Qe,Value.cells,am,mm,keep, f_, fo_, aint, lv, hcs4, hcc, hcc', hlen, hlen', ul, uc, ul2, uc2, hw1, hw2, hj, hii2]; refine hK_ _ _ ?_; clear hK_ K_; repeat first | refine QL ?_ | refine QM ?_)))
    refine ⟨(i + 1, w4, w5, H5), ⟨by simp only []; omega, by simp only [ht1]; exact d1', by simp only [ht2]; exact U5.ld, ap2.symm, x5⟩, (by repeat first | exact Forgets.nil | refine Forgets.cons (by first | (simp only [look, ↓reduceIte, Nat.reduceEqDiff]; done) | (simp only [look, ↓reduceIte, Nat.reduceEqDiff]; rfl) | simp [look, hii2]) ?_), ?_⟩
    first | omega | exact ⟨rfl, by omega⟩ | exact ⟨rfl, by simp only []; omega⟩ | (simp only []; omega)
  obtain rfl : i = l.length := by omega
  rw [List.take_length] at d1
  rw [List.take_of_length_le (by rw [List.length_reverse]; exact Nat.le_refl _)] at d2
  clear ca la hfa cb lb hfb
  obtain ⟨r1, ca, la, ma⟩ := addAll_spec l [] [] CI.nil (hpos _ (fun u hu => hu))
  obtain ⟨r2, cb, lb, mb⟩ := addAll_spec l.reverse [] [] CI.nil (hpos _ (fun u hu => List.mem_reverse.1 hu))
  have hab : addAll [] l = addAll [] l.reverse := ca.same cb fun v => by rw [ma v, mb v, List.mem_reverse]
  rw [← hab] at d2
  have hfa := ca.few
  rw [List.length_nil] at la
  have hrg := ep_rng ca.1.1 fun v hv => by
    rcases (ma v).1 hv with ⟨y, hy, _⟩ | k
    · exact absurd hy List.not_mem_nil
    · exact (hr v k.2).2.1
  have hok := ca.1.1
  generalize addAll [] l = A at *
  iterate 1 ((repeat first | refine Qo ?_ | refine Qn ?_); (first | (refine QK (by kernel_rfl) ?_; intro K_ hK_; simp -implicitDefEqProofs (disch := (try simp only [sl]); try omega) only [sm,QJ,Qj,Qi,Qq,QC,bd,look,aput,QI,abin,anil,ty,↓reduceIte,Nat.reduceEqDiff,Nat.reduceAdd,Nat.reduceSub,Nat.reduceMul,Int.reduceLT,Int.reduceLE,Int.reduceNeg,Int.reduceToNat,reduceCtorEq,Nat.reduceBEq,Nat.reduceBNe,Qk,Qe,Value.cells,am,mm,keep, f_, fo_, aint, lv, hii, hlt]; refine hK_ _ _ ?_; clear hK_ K_; repeat first | refine QL ?_ | refine QM ?_)))
  repeat first | refine Qo ?_ | refine Qn ?_
  refine awp_if false rfl (by first | (simp only [aeval_tmp, look, ↓reduceIte, Nat.reduceEqDiff]; try rfl) | rfl) (fun h => absurd h (by decide)) (fun _ => ?_)
  iterate 1 ((repeat first | refine Qo ?_ | refine Qn ?_); (first | (refine QK (by kernel_rfl) ?_; intro K_ hK_; simp -implicitDefEqProofs (disch := (try simp only [sl]); try omega) only [sm,QJ,Qj,Qi,Qq,QC,bd,look,aput,Qm,ty,↓reduceIte,Nat.reduceEqDiff,Nat.reduceAdd,Nat.reduceSub,Nat.reduceMul,Int.reduceLT,Int.reduceLE,Int.reduceNeg,Int.reduceToNat,reduceCtorEq,Nat.reduceBEq,Nat.reduceBNe,Qk,Qe,Value.cells,am,mm,keep, f_, fo_, aint, lv, hii]; refine hK_ _ _ ?_; clear hK_ K_; repeat first | refine QL ?_ | refine QM ?_) | (refine awp_exit ?_; (repeat first | refine aThen_exit ?_ | refine aIn_out rfl ?_); refine aIn_here ?_; repeat first | refine QL ?_ | refine QM ?_)))
  (repeat first | refine Qo ?_ | refine Qn ?_); refine QK (by kernel_rfl) ?_; intro K_ hK_; simp -implicitDefEqProofs (disch := (try simp only [sl]); try omega) only [sm,QJ,Qj,Qi,Qq,QC,bd,look,aput,Qm,ty,↓reduceIte,Nat.reduceEqDiff,Nat.reduceAdd,Nat.reduceSub,Nat.reduceMul,Int.reduceLT,Int.reduceLE,Int.reduceNeg,Int.reduceToNat,reduceCtorEq,Nat.reduceBEq,Nat.reduceBNe,Qk,Qe,Value.cells,am,mm,keep, f_, fo_, aint, lv, hii]
  refine ACalls.mono (runs_calls G.length G.length w1 A H3 d1 (by omega)) ?_
  rintro va H4 ⟨o4, e4⟩
  try simp -implicitDefEqProofs (disch := (try simp only [sl]); try omega) only [sm,QJ,Qj,Qi,Qq,QC,bd,look,aput,Qm,ty,↓reduceIte,Nat.reduceEqDiff,Nat.reduceAdd,Nat.reduceSub,Nat.reduceMul,Int.reduceLT,Int.reduceLE,Int.reduceNeg,Int.reduceToNat,reduceCtorEq,Nat.reduceBEq,Nat.reduceBNe,Qk,Qe,Value.cells,am,mm,keep, f_, fo_, aint, lv, hii]
  try (refine hK_ _ _ ?_; clear hK_ K_; repeat first | refine QL ?_ | refine QM ?_)
  refine ACalls.mono (runs_calls H1.length G.length w2 A H4 (d2.mono e4) (by omega)) ?_
  rintro vb H5 ⟨o5, e5⟩
  have la4 := alen_slnU (P := Try.prog) (T := 38) (by simp only [ty]) o4.sln
  have lb5 := alen_slnU (P := Try.prog) (T := 38) (by simp only [ty]) o5.sln
  have va4 := o4.sln.mono e5
  have vb5 := o5.sln
  try simp -implicitDefEqProofs (disch := (try simp only [sl]); try omega) only [sm,QJ,Qj,Qi,Qq,QC,bd,look,aput,Qm,ty,↓reduceIte,Nat.reduceEqDiff,Nat.reduceAdd,Nat.reduceSub,Nat.reduceMul,Int.reduceLT,Int.reduceLE,Int.reduceNeg,Int.reduceToNat,reduceCtorEq,Nat.reduceBEq,Nat.reduceBNe,Qk,Qe,Value.cells,am,mm,keep, f_, fo_, aint, hii, hnn, la4, lb5]
  try (refine hK_ _ _ ?_; clear hK_ K_; repeat first | refine QL ?_ | refine QM ?_)
  iterate 1 ((repeat first | refine Qo ?_ | refine Qn ?_); (first | (refine QK (by kernel_rfl) ?_; intro K_ hK_; simp -implicitDefEqProofs (disch := (try simp only [sl]); try omega) only [sm,QJ,Qj,Qi,Qq,QC,bd,look,aput,QI,abin,anil,ty,↓reduceIte,Nat.reduceEqDiff,Nat.reduceAdd,Nat.reduceSub,Nat.reduceMul,Int.reduceLT,Int.reduceLE,Int.reduceNeg,Int.reduceToNat,reduceCtorEq,Nat.reduceBEq,Nat.reduceBNe,Qk,Qe,Value.cells,am,mm,keep, f_, fo_, aint, hii, hnn, la4, lb5]; refine hK_ _ _ ?_; clear hK_ K_; repeat first | refine QL ?_ | refine QM ?_)))
  repeat first | refine Qo ?_ | refine Qn ?_
  refine awp_if false rfl (by first | (simp only [aeval_tmp, look, ↓reduceIte, Nat.reduceEqDiff]; try rfl) | rfl) (fun h => absurd h (by decide)) (fun _ => ?_)
  iterate 2 ((repeat first | refine Qo ?_ | refine Qn ?_); (first | (refine QK (by kernel_rfl) ?_; intro K_ hK_; simp -implicitDefEqProofs (disch := (try simp only [sl]); try omega) only [sm,QJ,Qj,Qi,Qq,QC,bd,look,aput,ty,↓reduceIte,Nat.reduceEqDiff,Nat.reduceAdd,Nat.reduceSub,Nat.reduceMul,Int.reduceLT,Int.reduceLE,Int.reduceNeg,Int.reduceToNat,reduceCtorEq,Nat.reduceBEq,Nat.reduceBNe,Qk,Qe,Value.cells,am,mm,keep, f_, fo_, aint, hii, hnn, la4, lb5]; refine hK_ _ _ ?_; clear hK_ K_; repeat first | refine QL ?_ | refine QM ?_) | (refine awp_skip ?_; repeat first | refine QL ?_ | refine QM ?_)))
  repeat first | refine Qo ?_ | refine Qn ?_
  refine awp_forK [6, 7, 46] (fun x : Nat => [(47, I64 x)]) (fun x : Nat => H5) (fun x : Nat => x ≤ A.length) (fun x : Nat => A.length - x) (0) (Nat.zero_le _) (by repeat first | exact Forgets.nil | refine Forgets.cons (by first | (simp only [look, ↓reduceIte, Nat.reduceEqDiff]; done) | (simp only [look, ↓reduceIte, Nat.reduceEqDiff]; rfl) | simp [look, hii2]) ?_) rfl ?_
  rintro i hi
  by_cases hlt2 : i < A.length
  · obtain ⟨g, o, e, cs, hve, hcs, hcc, hlen⟩ := va4.at (ruc_hl A) i hlt2
    obtain ⟨g', o', e', cs', hwe, hcs', hcc', hlen'⟩ := vb5.at (ruc_hl A) i hlt2
    cases hve
    cases hwe
    have hx := aeq_run (hok _ (List.getElem_mem hlt2)) (hrg _ (List.getElem_mem hlt2))
    generalize A[i] = x at *
    have xl := ruc_length x
    have xc := ruc_cellv x
    have hii2 : IntKind.i64.wrap ((i : Int) + 1) = (i : Int) + 1 := wi64 _ (by omega) (by omega)
    iterate 1 ((repeat first | refine Qo ?_ | refine Qn ?_); (first | (refine QK (by kernel_rfl) ?_; intro K_ hK_; simp -implicitDefEqProofs (disch := (try simp only [sl]); try omega) only [sm,QJ,Qj,Qi,Qq,QC,bd,look,aput,QI,abin,anil,ty,↓reduceIte,Nat.reduceEqDiff,Nat.reduceAdd,Nat.reduceSub,Nat.reduceMul,Int.reduceLT,Int.reduceLE,Int.reduceNeg,Int.reduceToNat,reduceCtorEq,Nat.reduceBEq,Nat.reduceBNe,Qk,Qe,Value.cells,am,mm,keep, f_, fo_, aint, la4, lb5, hcs, hcc, hlen, hcs', hcc', hlen', xl, xc, hx, Bool.not_true, hlt2]; refine hK_ _ _ ?_; clear hK_ K_; repeat first | refine QL ?_ | refine QM ?_)))
    repeat first | refine Qo ?_ | refine Qn ?_
    refine awp_if true rfl (by first | (simp only [aeval_tmp, look, ↓reduceIte, Nat.reduceEqDiff]; try rfl) | rfl) (fun _ => ?_) (fun h => absurd h (by decide))
    iterate 3 ((repeat first | refine Qo ?_ | refine Qn ?_); (first | ((first | refine QK (by kernel_rfl) ?_ | refine awp_region_drawK (id := 16) [(0, []), (1, []), (2, []), (3, []), (4, []), (5, []), (6, []), (7, []), (8, [])] mixed (by kernel_rfl) ?_); intro K_ hK_; simp -implicitDefEqProofs (disch := (try simp only [sl]); try omega) only [sm,QJ,aSel,Qu,Qv,Qw,Qx,Qy,Qj,Qi,Qq,QC,Qz,bd,QF,look,aput,QI,abin,anil,Qb,QA,ty,↓reduceIte,Nat.reduceEqDiff,Nat.reduceAdd,Nat.reduceSub,Nat.reduceMul,Int.reduceLT,Int.reduceLE,Int.reduceNeg,Int.reduceToNat,reduceCtorEq,Nat.reduceBEq,Nat.reduceBNe,Qk,Qe,Value.cells,am,mm,keep, f_, fo_, aint, la4, lb5, hcs, hcc, hlen, hcs', hcc', hlen', xl, xc, hx, Bool.not_true, hlt2]; refine hK_ _ _ ?_; clear hK_ K_; repeat first | refine QL ?_ | refine QM ?_) | (refine awp_skip ?_; repeat first | refine QL ?_ | refine QM ?_)))
    repeat first | refine Qo ?_ | refine Qn ?_
    refine awp_if false rfl (by first | (simp only [aeval_tmp, look, ↓reduceIte, Nat.reduceEqDiff]; try rfl) | rfl) (fun h => absurd h (by decide)) (fun _ => ?_)
    iterate 2 ((repeat first | refine Qo ?_ | refine Qn ?_); (first | (refine QK (by kernel_rfl) ?_; intro K_ hK_; simp -implicitDefEqProofs (disch := (try simp only [sl]); try omega) only [sm,QJ,Qj,Qi,Qq,QC,bd,look,aput,QI,abin,anil,ty,↓reduceIte,Nat.reduceEqDiff,Nat.reduceAdd,Nat.reduceSub,Nat.reduceMul,Int.reduceLT,Int.reduceLE,Int.reduceNeg,Int.reduceToNat,reduceCtorEq,Nat.reduceBEq,Nat.reduceBNe,Qk,Qe,Value.cells,am,mm,keep, f_, fo_, aint, la4, lb5, hcs, hcc, hlen, hcs', hcc', hlen', xl, xc, hx, Bool.not_true, hii2]; refine hK_ _ _ ?_; clear hK_ K_; repeat first | refine QL ?_ | refine QM ?_) | (refine awp_skip ?_; repeat first | refine QL ?_ | refine QM ?_)))
    refine ⟨i + 1, by omega, (by repeat first | exact Forgets.nil | refine Forgets.cons (by first | (simp only [look, ↓reduceIte, Nat.reduceEqDiff]; done) | (simp only [look, ↓reduceIte, Nat.reduceEqDiff]; rfl) | simp [look, hii2]) ?_), ?_⟩
    first | omega | exact ⟨rfl, by omega⟩ | exact ⟨rfl, by simp only []; omega⟩ | (simp only []; omega)
  have hi' : i = A.length := by omega
  iterate 1 ((repeat first | refine Qo ?_ | refine Qn ?_); (first | (refine QK (by kernel_rfl) ?_; intro K_ hK_; simp -implicitDefEqProofs (disch := (try simp only [sl]); try omega) only [sm,QJ,Qj,Qi,Qq,QC,bd,look,aput,QI,abin,anil,ty,↓reduceIte,Nat.reduceEqDiff,Nat.reduceAdd,Nat.reduceSub,Nat.reduceMul,Int.reduceLT,Int.reduceLE,Int.reduceNeg,Int.reduceToNat,reduceCtorEq,Nat.reduceBEq,Nat.reduceBNe,Qk,Qe,Value.cells,am,mm,keep, f_, fo_, aint, la4, lb5, hlt2]; refine hK_ _ _ ?_; clear hK_ K_; repeat first | refine QL ?_ | refine QM ?_)))
  repeat first | refine Qo ?_ | refine Qn ?_
  refine awp_if false rfl (by first | (simp only [aeval_tmp, look, ↓reduceIte, Nat.reduceEqDiff]; try rfl) | rfl) (fun h => absurd h (by decide)) (fun _ => ?_)
  iterate 1 ((repeat first | refine Qo ?_ | refine Qn ?_); (first | (refine QK (by kernel_rfl) ?_; intro K_ hK_; simp -implicitDefEqProofs (disch := (try simp only [sl]); try omega) only [sm,QJ,Qj,Qi,Qq,QC,bd,look,aput,Qm,ty,↓reduceIte,Nat.reduceEqDiff,Nat.reduceAdd,Nat.reduceSub,Nat.reduceMul,Int.reduceLT,Int.reduceLE,Int.reduceNeg,Int.reduceToNat,reduceCtorEq,Nat.reduceBEq,Nat.reduceBNe,Qk,Qe,Value.cells,am,mm,keep, f_, fo_, aint, la4, lb5]; refine hK_ _ _ ?_; clear hK_ K_; repeat first | refine QL ?_ | refine QM ?_) | (refine awp_exit ?_; (repeat first | refine aThen_exit ?_ | refine aIn_out rfl ?_); refine aIn_here ?_; repeat first | refine QL ?_ | refine QM ?_)))
  (repeat first | refine Qo ?_ | refine Qn ?_); refine QK (by kernel_rfl) ?_; intro K_ hK_; simp -implicitDefEqProofs (disch := (try simp only [sl]); try omega) only [sm,QJ,Qj,Qi,Qq,QC,bd,look,aput,Qm,ty,↓reduceIte,Nat.reduceEqDiff,Nat.reduceAdd,Nat.reduceSub,Nat.reduceMul,Int.reduceLT,Int.reduceLE,Int.reduceNeg,Int.reduceToNat,reduceCtorEq,Nat.reduceBEq,Nat.reduceBNe,Qk,Qe,Value.cells,am,mm,keep, f_, fo_, aint, la4, lb5]
  refine ACalls.mono (lalive_calls _) ?_
  rintro _ H9 ⟨rfl, e9⟩
  try simp -implicitDefEqProofs (disch := (try simp only [sl]); try omega) only [sm,QJ,Qj,Qi,Qq,QC,bd,look,aput,Qm,ty,↓reduceIte,Nat.reduceEqDiff,Nat.reduceAdd,Nat.reduceSub,Nat.reduceMul,Int.reduceLT,Int.reduceLE,Int.reduceNeg,Int.reduceToNat,reduceCtorEq,Nat.reduceBEq,Nat.reduceBNe,Qk,Qe,Value.cells,am,mm,keep, f_, fo_, aint, la4, lb5]
  try (refine hK_ _ _ ?_; clear hK_ K_; repeat first | refine QL ?_ | refine QM ?_)
  first | refine awp_ret ?_ | skip
  show ∃ v, aresults Try.prog Try.f4 _ _ = some v ∧ _
  rw [aresults_1 (r := .tmp 2) (by kernel_rfl)]
  simp -implicitDefEqProofs (disch := (try simp only [sl]); try omega) only [aresult, Option.some.injEq, exists_eq_left', sm,Qj,Qi,Qq,QC,Qz,bd,QF,look,aput,QB,Qf,QA,ty,↓reduceIte,Nat.reduceEqDiff,Nat.reduceAdd,Nat.reduceSub,Nat.reduceMul,Int.reduceLT,Int.reduceLE,Int.reduceNeg,Int.reduceToNat,reduceCtorEq,Nat.reduceBEq,Nat.reduceBNe,Qk,Qe,Value.cells,am,mm,keep, f_, fo_, aint, la4, lb5]
end Go.Proofs.Ytldfnfpinemedaa
