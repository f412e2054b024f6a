/- ledger: Last. -/
import Derived.Test.YtldfnfpinemedaaLma
namespace Go.Proofs.Ytldfnfpinemedaa
open Go Go.RowKit
set_option linter.unusedSimpArgs false
set_option linter.unusedVariables false
set_option maxRecDepth 4000
def hitR (b : Int) (r : Rn) : Prop := r.2.1 ≤ b ∧ b < endR r
instance (b : Int) (r : Rn) : Decidable (hitR b r) := inferInstanceAs (Decidable (_ ∧ _))
def lastL (L : List Rn) (b : Int) : Int × Bool := L.foldl (fun s r => if hitR b r then (r.1, true) else s) (0, false)
theorem fold_miss (b : Int) : ∀ (L : List Rn) (s : Int × Bool), (∀ r ∈ L, ¬ hitR b r) → L.foldl (fun s r => if hitR b r then (r.1, true) else s) s = s
  | [], s, _ => rfl
  | r :: t, s, h => by
    rw [List.foldl_cons, if_neg (h r (by simp))]
    exact fold_miss b t s fun x hx => h x (by simp [hx])
theorem lastL_none {L : List Rn} {b : Int} (h : ∀ i (hi : i < L.length), ¬ hitR b L[i]) : lastL L b = (0, false) :=
  fold_miss b L _ fun r hr => by
    obtain ⟨i, hi, rfl⟩ := List.getElem_of_mem hr
    exact h i hi
theorem lastL_some {L : List Rn} {b : Int} {i : Nat} (hi : i < L.length) (h : hitR b L[i]) (hn : ∀ j (hj : j < L.length), i < j → ¬ hitR b L[j]) : lastL L b = (L[i].1, true) := by
  have e : L = L.take i ++ L[i] :: L.drop (i + 1) := by rw [List.getElem_cons_drop, List.take_append_drop]
  unfold lastL
  rw [show (L.foldl (fun s r => if hitR b r then (r.1, true) else s) ((0 : Int), false)) = (L.take i ++ L[i] :: L.drop (i + 1)).foldl (fun s r => if hitR b r then (r.1, true) else s) ((0 : Int), false) by rw [← e]]
  rw [List.foldl_append, List.foldl_cons, if_pos h]
  refine fold_miss b _ _ fun r hr => ?_
  obtain ⟨j, hj, rfl⟩ := List.getElem_of_mem hr
  rw [List.getElem_drop]
  exact hn _ _ (by omega)
theorem gg2 (G : AH) (a b : ABlk) : (G ++ [a] ++ [b])[G.length + 1]? = some b := by
  rw [show G.length + 1 = (G ++ [a]).length by simp]
  exact get_push_eq
theorem gg1 (G : AH) (a b : ABlk) : (G ++ [a] ++ [b])[G.length]? = some a := by
  rw [get_push_lt (by simp)]
  exact get_push_eq
theorem SLn.slice {H : AH} {v : Value} {n : Nat} {cells : List Value} (h : SLn H v n cells) : ∃ a k e, v = .slice a k e := by
  rcases h with ⟨rfl, _⟩ | ⟨g, o, e, rfl, _⟩
  · exact ⟨_, _, _, rfl⟩
  · exact ⟨_, _, _, rfl⟩
/-- What was turned once, and back, is as it was. -/
theorem Ext.back {E H H1 H2 : AH} {g : Nat} {x y : ABlk} (h : Ext E H) (hx : H[g]? = some x) (e : Ext H H1) (e2 : Ext (H1.set g y) H2) (hl : g < H1.length) : Ext E (H2.set g x) := fun i b hb => by
  by_cases hi : i = g
  · subst hi
    have h1 := h _ _ hb
    rw [hx] at h1; cases h1
    have := e2.length
    rw [List.length_set] at this
    rw [List.getElem?_set_self (by omega)]
  · rw [List.getElem?_set_ne (fun k => hi k.symm)]
    exact e2 _ _ (by rw [List.getElem?_set_ne (fun k => hi k.symm)]; exact e _ _ (h _ _ hb))
set_option maxHeartbeats 8000000 in
theorem last_calls (p b0 : Nat) (w : Value) (L : List Rn) (bk : Int) (H : AH) (h : LdI b0 p H w L) (hm : L.length ≤ 1000) (hok : ∀ r ∈ L, okR r) :
    ACalls Try.prog 31 #[.pointer (some ⟨p, 0, none⟩), .int .i64 bk] H fun v H' => v = .tuple #[.int .u32 (lastL L bk).1, .bool (lastL L bk).2] ∧ Ext H H' := by
  refine acalls_of_range Try.func31 rfl Try.ntmps31 (by simp) rfl ?_
  simp only [argsT, Nat.reduceAdd]
  have fo_ : True := trivial
  have N_ := Now.start H
  have f_ := N_.has
  simp only [Has] at f_
  refine Qp (by kernel_rfl) ?_
  simp -implicitDefEqProofs (disch := (try simp only [sl]); try omega) only [sm,QJ,Qj,Qi,Qq,QC,bd,look,aput,QB,Qf,ty,↓reduceIte,Nat.reduceEqDiff,Nat.reduceAdd,Nat.reduceSub,Nat.reduceMul,Int.reduceLT,Int.reduceLE,Int.reduceNeg,Int.reduceToNat,reduceCtorEq,Nat.reduceBEq,Nat.reduceBNe,Qk,Qe,Value.cells,am,mm,keep, aint]
  simp only [noExit]
  first | refine AWp.snap8 N_ ?_ | refine AWp.snap7 N_ ?_ | refine AWp.snap6 N_ ?_ | refine AWp.snap5 N_ ?_ | refine AWp.snap4 N_ ?_ | refine AWp.snap3 N_ ?_ | refine AWp.snap2 N_ ?_ | refine AWp.snap1 N_ ?_
  clear fo_; have fo_ := f_; clear f_ N_; intro H1 xH1 lH1 N_
  have f_ := N_.has
  simp only [Has] at f_
  refine Qp (by kernel_rfl) ?_
  simp -implicitDefEqProofs (disch := (try simp only [sl]); try omega) only [sm,QJ,Qj,Qi,Qq,QC,bd,look,aput,Qm,QB,Qf,ty,↓reduceIte,Nat.reduceEqDiff,Nat.reduceAdd,Nat.reduceSub,Nat.reduceMul,Int.reduceLT,Int.reduceLE,Int.reduceNeg,Int.reduceToNat,reduceCtorEq,Nat.reduceBEq,Nat.reduceBNe,Qk,Qe,Value.cells,am,mm,keep, aint]
  refine ACalls.mono (runs_calls p b0 w L H1 (h.mono xH1) hm) ?_
  rintro v G ⟨o1, e1⟩
  have sv := o1.sln
  obtain ⟨a, n, e, rfl⟩ := sv.slice
  replace N_ := N_.grow e1
  clear fo_; have fo_ := f_; clear f_
  have f_ := N_.has
  simp only [Has] at f_
  try simp -implicitDefEqProofs (disch := (try simp only [sl]); try omega) only [sm,QJ,aSel,Qu,Qv,Qw,Qx,Qy,Qj,Qi,Qq,QC,Qz,bd,QF,look,aput,Qm,QH,QB,Qf,Qg,QI,abin,anil,QG,Qb,Qc,Qt,QA,Qs,Qr,aslice3,asl3,loN,hiN,Qh,Qa,Qd,Ql,QD,QE,acap,ty,↓reduceIte,Nat.reduceEqDiff,Nat.reduceAdd,Nat.reduceSub,Nat.reduceMul,Int.reduceLT,Int.reduceLE,Int.reduceNeg,Int.reduceToNat,reduceCtorEq,Nat.reduceBEq,Nat.reduceBNe,Qk,Qe,Value.cells,am,mm,keep, aint]
  refine ACalls.mono (back_calls a n e G) ?_
  rintro _ G2 ⟨rfl, hG2⟩
  have hq2 : G2[G.length]? = some (.own [.slice a n e]) := by rw [hG2]; exact gpush _ _
  have x2 : Ext G G2 := by rw [hG2]; exact Ext.push _ _
  clear hG2
  replace N_ := N_.grow x2
  clear fo_; have fo_ := f_; clear f_
  have f_ := N_.has
  simp only [Has] at f_
  try simp -implicitDefEqProofs (disch := (try simp only [sl]); try omega) only [sm,QJ,aSel,Qu,Qv,Qw,Qx,Qy,Qj,Qi,Qq,QC,Qz,bd,QF,look,aput,Qm,QH,QB,Qf,Qg,QI,abin,anil,QG,Qb,Qc,Qt,QA,Qs,Qr,aslice3,asl3,loN,hiN,Qh,Qa,Qd,Ql,QD,QE,acap,ty,↓reduceIte,Nat.reduceEqDiff,Nat.reduceAdd,Nat.reduceSub,Nat.reduceMul,Int.reduceLT,Int.reduceLE,Int.reduceNeg,Int.reduceToNat,reduceCtorEq,Nat.reduceBEq,Nat.reduceBNe,Qk,Qe,Value.cells,am,mm,keep, aint]
  simp only [noExit]
  refine ⟨67, #[.pointer (some ⟨G.length, 0, none⟩)], by simp only [look, ↓reduceIte, Nat.reduceEqDiff], by kernel_rfl, ?_⟩
  intro D Lk qf LP hLP
  have sv2 := sv.mono x2
  have b5 := f_.1.2.1
  have b4 := f_.2.1.2.1
  have b3 := f_.2.2.1.2.1
  have l2 : H.length + 3 ≤ G2.length := f_.1.1
  have xG : Ext H G2 := N_.ext
  clear f_ fo_ N_ xH1 e1 x2 o1
  refine ACalls.mono (backn_calls Lk G.length (.slice a n e) L _ (fun k H' => Ext (G2 ++ [ABlk.odd D defP] ++ [ABlk.odd Lk (LP .ready none)]) H' ∧ ∀ i (hi : i < L.length), L.length - k ≤ i → ¬ hitR bk L[i])
    (fun H' => ∃ i, ∃ hi : i < L.length, hitR bk L[i] ∧ (∀ j (hj : j < L.length), i < j → ¬ hitR bk L[j]) ∧ H'[G2.length]? = some (ABlk.odd D defP) ∧ H'[G2.length + 1]? = some (ABlk.odd Lk (LP .done (some .ret))) ∧ H'[H.length + 1]? = some (ABlk.own [.int .u32 L[i].1]) ∧ H'[H.length + 2]? = some (ABlk.own [.bool true]) ∧ Ext H H') hm ⟨Ext.refl _, fun i hi h => absurd hi (by omega)⟩ ?_ ?_) ?_
  · rintro k H' ⟨xe, -⟩
    have xg : Ext G2 H' := ((Ext.push _ _).trans (Ext.push _ _)).trans xe
    exact ⟨AH.cells_own (xg _ _ hq2), sv2.mono xg⟩
  · rintro k H' hk ⟨xe, hno⟩
    have xg : Ext G2 H' := ((Ext.push _ _).trans (Ext.push _ _)).trans xe
    have hgL := xe _ _ (gg2 _ _ _)
    have hgD := xe _ _ (gg1 _ _ _)
    obtain ⟨j, hj⟩ : ∃ j, j = L.length - 1 - k := ⟨_, rfl⟩
    have hjl : j < L.length := by omega
    have hr := hok _ (List.getElem_mem hjl)
    have hat : ∀ i (hi : i < L.length), i = j → L[i] = L[j] := fun i hi e => by subst e; rfl
    simp only [← hj]
    have hno' : ¬ hitR bk L[j] → ∀ i (hi : i < L.length), L.length - (k + 1) ≤ i → ¬ hitR bk L[i] := fun hn i hi h => by
      by_cases he : i = j
      · rw [hat i hi he]; exact hn
      · exact hno i hi (by omega)
    have hup : ∀ i (hi : i < L.length), j < i → ¬ hitR bk L[i] := fun i hi h => hno i hi (by omega)
    have hZ : ∀ H'', hitR bk L[j] → H''[G2.length]? = some (ABlk.odd D defP) → _ → _ → _ → _ → _ := fun H'' q1 q2 q3 q4 q5 q6 => (⟨j, hjl, q1, hup, q2, q3, q4, q5, q6⟩ : ∃ i, ∃ hi : i < L.length, hitR bk L[i] ∧ (∀ j (hj : j < L.length), i < j → ¬ hitR bk L[j]) ∧ H''[G2.length]? = some (ABlk.odd D defP) ∧ H''[G2.length + 1]? = some (ABlk.odd Lk (LP .done (some .ret))) ∧ H''[H.length + 1]? = some (ABlk.own [.int .u32 L[i].1]) ∧ H''[H.length + 2]? = some (ABlk.own [.bool true]) ∧ Ext H H'')
    have rl := ruc_length L[j]
    have rc := ruc_cellv L[j]
    have rt := ruc_take L[j]
    have r0 := ruc_0 L[j]
    have r1 := ruc_1 L[j]
    have ro := ruc_ovr (0, 0, 0) L[j]
    have zl := ruc_length (0, 0, 0)
    refine ayield hLP hgL (by decide) (by decide) ?_
    simp only [aput]
    refine Qp (by kernel_rfl) ?_
    simp -implicitDefEqProofs (disch := (try simp only [sl]); try omega) only [sm,QJ,Qj,Qi,Qq,QC,bd,look,aput,Qm,QB,Qf,ty,↓reduceIte,Nat.reduceEqDiff,Nat.reduceAdd,Nat.reduceSub,Nat.reduceMul,Int.reduceLT,Int.reduceLE,Int.reduceNeg,Int.reduceToNat,reduceCtorEq,Nat.reduceBEq,Nat.reduceBNe,Qk,Qe,Value.cells,am,mm,keep, aint, rl, rc, ro, zl, zR]
    simp only [noExit]
    have hl7 : H'.length < ((H' ++ [ABlk.own (ruc L[j])]).set (G2.length + 1) (ABlk.odd Lk (LP .busy none))).length := by simp
    have hgl := own_lt hgL
    refine ⟨get_push_lt hgl, ?_⟩
    have k7 : ((H' ++ [ABlk.own (ruc L[j])]).set (G2.length + 1) (ABlk.odd Lk (LP .busy none)))[H'.length]? = some (.own (ruc L[j])) := by
      rw [List.getElem?_set_ne (by omega)]; exact get_push_eq
    have kL : ((H' ++ [ABlk.own (ruc L[j])]).set (G2.length + 1) (ABlk.odd Lk (LP .busy none)))[G2.length + 1]? = some (ABlk.odd Lk (LP .busy none)) := by
      rw [List.getElem?_set_self (by simp; omega)]
    have kO : ∀ i b, G2[i]? = some b → ((H' ++ [ABlk.own (ruc L[j])]).set (G2.length + 1) (ABlk.odd Lk (LP .busy none)))[i]? = some b := fun i b hb => by
      have := own_lt hb
      rw [List.getElem?_set_ne (by omega)]
      exact (Ext.push _ _) _ _ (xg _ _ hb)
    have kD : ((H' ++ [ABlk.own (ruc L[j])]).set (G2.length + 1) (ABlk.odd Lk (LP .busy none)))[G2.length]? = some (ABlk.odd D defP) := by
      rw [List.getElem?_set_ne (by omega)]
      exact (Ext.push _ _) _ _ hgD
    have hbackE : ∀ H2, Ext ((H' ++ [ABlk.own (ruc L[j])]).set (G2.length + 1) (ABlk.odd Lk (LP .busy none))) H2 → Ext (G2 ++ [ABlk.odd D defP] ++ [ABlk.odd Lk (LP .ready none)]) (H2.set (G2.length + 1) (ABlk.odd Lk (LP .ready none))) := fun H2 e2 =>
      xe.back hgL (Ext.push _ _) e2 (by simp; omega)
    generalize ((H' ++ [ABlk.own (ruc L[j])]).set (G2.length + 1) (ABlk.odd Lk (LP .busy none))) = X at *
    have k3 := kO _ _ b3
    have k4 := kO _ _ b4
    have k5 := kO _ _ b5
    refine Qn ?_
    refine Qo ?_
    have c7 := AH.cells_own k7
    have c3 := AH.cells_own k3
    by_cases h1 : L[j].2.1 ≤ bk
    · refine awp_region_drawC [(0, []), (1, []), (2, []), (3, []), (4, []), (5, []), (6, []), (7, [5]), (8, []), (9, [])] mixed (by kernel_rfl) ?_
      simp -implicitDefEqProofs (disch := (try simp only [sl]); try omega) only [sm,aSel,Qu,Qv,Qw,Qx,Qy,Qj,Qi,Qq,QC,Qz,bd,QF,look,aput,Qm,QB,Qf,QI,abin,anil,Qc,QA,ty,↓reduceIte,Nat.reduceEqDiff,Nat.reduceAdd,Nat.reduceSub,Nat.reduceMul,Int.reduceLT,Int.reduceLE,Int.reduceNeg,Int.reduceToNat,reduceCtorEq,Nat.reduceBEq,Nat.reduceBNe,Qk,Qe,Value.cells,am,mm,keep, aint, rl, rc, rt, r0, r1, c7, c3, h1]
      refine ACalls.mono (end_calls L[j] X hr) ?_
      rintro _ X2 ⟨rfl, e2⟩
      have kL2 := e2 _ _ kL
      have kD2 := e2 _ _ kD
      have kO2 : ∀ i b, G2[i]? = some b → X2[i]? = some b := fun i b hb => e2 _ _ (kO i b hb)
      have hb2 := hbackE X2 e2
      have k7' := AH.cells_own (e2 _ _ k7)
      have k3' := AH.cells_own (e2 _ _ k3)
      have k4' := e2 _ _ k4
      have k5' := e2 _ _ k5
      have xGX : Ext H X2 := fun i b hb => kO2 _ _ (xG _ _ hb)
      have lX := own_lt kL2
      by_cases h2 : bk < endR L[j]
      · try simp -implicitDefEqProofs (disch := (try simp only [sl]); try omega) only [sm,QJ,aSel,Qu,Qv,Qw,Qx,Qy,Qj,Qi,Qq,QC,Qz,bd,QF,look,aput,Qm,QH,QB,Qf,Qg,QI,abin,anil,QG,Qb,Qc,Qt,QA,Qs,Qr,aslice3,asl3,loN,hiN,Qh,Qa,Qd,Ql,QD,QE,acap,ty,↓reduceIte,Nat.reduceEqDiff,Nat.reduceAdd,Nat.reduceSub,Nat.reduceMul,Int.reduceLT,Int.reduceLE,Int.reduceNeg,Int.reduceToNat,reduceCtorEq,Nat.reduceBEq,Nat.reduceBNe,Qk,Qe,Value.cells,am,mm,keep, aint, h2, k3', c3, true_and]
        refine awp_if true rfl (by simp only [aeval_tmp, look, ↓reduceIte, Nat.reduceEqDiff]) (fun _ => ?_) (fun h => absurd h (by decide))
        refine Qo ?_
        refine Qp (by kernel_rfl) ?_
        simp -implicitDefEqProofs (disch := (try simp only [sl]); try omega) only [sm,QJ,Qj,Qi,Qq,QC,Qz,bd,QF,look,aput,Qm,QB,Qf,Qc,QA,ty,↓reduceIte,Nat.reduceEqDiff,Nat.reduceAdd,Nat.reduceSub,Nat.reduceMul,Int.reduceLT,Int.reduceLE,Int.reduceNeg,Int.reduceToNat,reduceCtorEq,Nat.reduceBEq,Nat.reduceBNe,Qk,Qe,Value.cells,am,mm,keep, aint, k7', k4', k5', k3', rl, rc, rt, r0, r1]
        refine awp_ret ?_
        refine ⟨?_, .inr ⟨rfl, hZ _ ⟨h1, h2⟩ ?_ ?_ ?_ ?_ ?_⟩⟩
        · rw [List.getElem?_set_ne (by omega), List.getElem?_set_ne (by omega)]; exact kL2
        · rw [List.getElem?_set_ne (by omega), List.getElem?_set_ne (by omega), List.getElem?_set_ne (by omega)]; exact kD2
        · rw [List.getElem?_set_self (by simp; omega)]
        · rw [List.getElem?_set_ne (by omega), List.getElem?_set_ne (by omega), List.getElem?_set_self (by omega)]; rfl
        · rw [List.getElem?_set_ne (by omega), List.getElem?_set_self (by simp; omega)]; rfl
        · exact Ext.set (Ext.set (Ext.set xGX _ (by omega)) _ (by omega)) _ (by omega)
      · try simp -implicitDefEqProofs (disch := (try simp only [sl]); try omega) only [sm,QJ,aSel,Qu,Qv,Qw,Qx,Qy,Qj,Qi,Qq,QC,Qz,bd,QF,look,aput,Qm,QH,QB,Qf,Qg,QI,abin,anil,QG,Qb,Qc,Qt,QA,Qs,Qr,aslice3,asl3,loN,hiN,Qh,Qa,Qd,Ql,QD,QE,acap,ty,↓reduceIte,Nat.reduceEqDiff,Nat.reduceAdd,Nat.reduceSub,Nat.reduceMul,Int.reduceLT,Int.reduceLE,Int.reduceNeg,Int.reduceToNat,reduceCtorEq,Nat.reduceBEq,Nat.reduceBNe,Qk,Qe,Value.cells,am,mm,keep, aint, h2, k3', c3, true_and]
        refine awp_if false rfl (by simp only [aeval_tmp, look, ↓reduceIte, Nat.reduceEqDiff]) (fun h => absurd h (by decide)) (fun _ => ?_)
        refine awp_skip ?_
        refine QM ?_
        exact ⟨kL2, .inl ⟨rfl, hb2, hno' fun k => h2 k.2⟩⟩
    · refine awp_region_drawC [(0, []), (1, []), (2, []), (3, []), (4, []), (5, []), (6, []), (7, [5]), (8, []), (9, [])] mixed (by kernel_rfl) ?_
      simp -implicitDefEqProofs (disch := (try simp only [sl]); try omega) only [sm,aSel,Qu,Qv,Qw,Qx,Qy,Qj,Qi,Qq,QC,Qz,bd,QF,look,aput,Qm,QB,Qf,QI,abin,anil,Qc,QA,ty,↓reduceIte,Nat.reduceEqDiff,Nat.reduceAdd,Nat.reduceSub,Nat.reduceMul,Int.reduceLT,Int.reduceLE,Int.reduceNeg,Int.reduceToNat,reduceCtorEq,Nat.reduceBEq,Nat.reduceBNe,Qk,Qe,Value.cells,am,mm,keep, aint, rl, rc, rt, r0, r1, c7, c3, h1]
      refine awp_if false rfl (by simp only [aeval_tmp, look, ↓reduceIte, Nat.reduceEqDiff]) (fun h => absurd h (by decide)) (fun _ => ?_)
      refine awp_skip ?_
      refine QM ?_
      exact ⟨kL, .inl ⟨rfl, hbackE X (Ext.refl _), hno' fun k => h1 k.1⟩⟩
  rintro v H' (⟨xe, hno⟩ | ⟨i, hi, hh, hn, q1, q2, q3, q4, q5⟩)
  · have hgL := xe _ _ (gg2 _ _ _)
    have hgD := xe _ _ (gg1 _ _ _)
    have hgl := own_lt hgL
    have xg : Ext G2 H' := ((Ext.push _ _).trans (Ext.push _ _)).trans xe
    rw [lastL_none fun i hi => hno i hi (by omega)]
    refine ⟨hgD, .inl ⟨hgL, ?_⟩⟩
    have k4 := (show (List.set H' (G2.length + 1) (ABlk.odd Lk anyP))[H.length + 1]? = some _ by rw [List.getElem?_set_ne (by omega)]; exact xg _ _ b4)
    have k5 := (show (List.set H' (G2.length + 1) (ABlk.odd Lk anyP))[H.length + 2]? = some _ by rw [List.getElem?_set_ne (by omega)]; exact xg _ _ b5)
    have xH : Ext H (List.set H' (G2.length + 1) (ABlk.odd Lk anyP)) := Ext.set (xG.trans xg) _ (by omega)
    have kD : (List.set H' (G2.length + 1) (ABlk.odd Lk anyP))[G2.length]? = some (ABlk.odd D defP) := by rw [List.getElem?_set_ne (by omega)]; exact hgD
    generalize List.set H' (G2.length + 1) (ABlk.odd Lk anyP) = X at *
    have lX := own_lt kD
    repeat first | refine Qo ?_ | refine Qn ?_
    refine Qp (by kernel_rfl) ?_
    simp -implicitDefEqProofs (disch := (try simp only [sl]); try omega) only [sm,QJ,Qj,Qi,Qq,QC,bd,look,aput,Qm,QB,Qf,ty,↓reduceIte,Nat.reduceEqDiff,Nat.reduceAdd,Nat.reduceSub,Nat.reduceMul,Int.reduceLT,Int.reduceLE,Int.reduceNeg,Int.reduceToNat,reduceCtorEq,Nat.reduceBEq,Nat.reduceBNe,Qk,Qe,Value.cells,am,mm,keep, aint, k4, k5]
    refine awp_ret ?_
    have y4 : AH.cells (((X.set (H.length + 1) (ABlk.own [.int .u32 0])).set (H.length + 2) (ABlk.own [.bool false])).set G2.length (ABlk.odd D anyP)) (H.length + 1) = some [.int .u32 0] := AH.cells_own (by rw [List.getElem?_set_ne (by omega), List.getElem?_set_ne (by omega), List.getElem?_set_self (by omega)])
    have y5 : AH.cells (((X.set (H.length + 1) (ABlk.own [.int .u32 0])).set (H.length + 2) (ABlk.own [.bool false])).set G2.length (ABlk.odd D anyP)) (H.length + 2) = some [.bool false] := AH.cells_own (by rw [List.getElem?_set_ne (by omega), List.getElem?_set_self (by simp; omega)])
    have yE : Ext H (((X.set (H.length + 1) (ABlk.own [.int .u32 0])).set (H.length + 2) (ABlk.own [.bool false])).set G2.length (ABlk.odd D anyP)) := Ext.set (Ext.set (Ext.set xH _ (by omega)) _ (by omega)) _ (by omega)
    refine ⟨by rw [List.getElem?_set_ne (by omega), List.getElem?_set_ne (by omega)]; exact kD, ?_⟩
    first | refine awp_ret ?_ | skip
    show ∃ v, aresults Try.prog Try.f31 _ _ = some v ∧ _
    rw [aresults_2 (r := .cell 4 27) (s := .cell 5 4) (by kernel_rfl)]
    simp -implicitDefEqProofs (disch := (try simp only [sl]); try omega) only [aresult, Option.some.injEq, exists_eq_left', sm,Qj,Qi,Qq,QC,Qz,bd,QF,look,aput,QB,Qf,QA,ty,↓reduceIte,Nat.reduceEqDiff,Nat.reduceAdd,Nat.reduceSub,Nat.reduceMul,Int.reduceLT,Int.reduceLE,Int.reduceNeg,Int.reduceToNat,reduceCtorEq,Nat.reduceBEq,Nat.reduceBNe,Qk,Qe,Value.cells,am,mm,keep, y4, y5]
    exact ⟨_, rfl, rfl, yE⟩
  · rw [lastL_some hi hh hn]
    have lX := own_lt q2
    refine ⟨q1, .inr ⟨q2, ?_⟩⟩
    have y4 : AH.cells ((H'.set (G2.length + 1) (ABlk.odd Lk anyP)).set G2.length (ABlk.odd D anyP)) (H.length + 1) = some [.int .u32 L[i].1] := AH.cells_own (by rw [List.getElem?_set_ne (by omega), List.getElem?_set_ne (by omega)]; exact q3)
    have y5 : AH.cells ((H'.set (G2.length + 1) (ABlk.odd Lk anyP)).set G2.length (ABlk.odd D anyP)) (H.length + 2) = some [.bool true] := AH.cells_own (by rw [List.getElem?_set_ne (by omega), List.getElem?_set_ne (by omega)]; exact q4)
    have yE : Ext H ((H'.set (G2.length + 1) (ABlk.odd Lk anyP)).set G2.length (ABlk.odd D anyP)) := Ext.set (Ext.set q5 _ (by omega)) _ (by omega)
    refine ⟨by rw [List.getElem?_set_ne (by omega)]; exact q1, ?_⟩
    first | refine awp_ret ?_ | skip
    show ∃ v, aresults Try.prog Try.f31 _ _ = some v ∧ _
    rw [aresults_2 (r := .cell 4 27) (s := .cell 5 4) (by kernel_rfl)]
    simp -implicitDefEqProofs (disch := (try simp only [sl]); try omega) only [aresult, Option.some.injEq, exists_eq_left', sm,Qj,Qi,Qq,QC,Qz,bd,QF,look,aput,QB,Qf,QA,ty,↓reduceIte,Nat.reduceEqDiff,Nat.reduceAdd,Nat.reduceSub,Nat.reduceMul,Int.reduceLT,Int.reduceLE,Int.reduceNeg,Int.reduceToNat,reduceCtorEq,Nat.reduceBEq,Nat.reduceBNe,Qk,Qe,Value.cells,am,mm,keep, y4, y5]
    exact yE
end Go.Proofs.Ytldfnfpinemedaa
