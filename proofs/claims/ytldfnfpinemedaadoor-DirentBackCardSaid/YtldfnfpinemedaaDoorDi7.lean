/- dirent: Parse. -/
import Derived.Test.YtldfnfpinemedaaDoorDi6
namespace Go.Proofs.YtldfnfpinemedaaDoor
open Go Go.RowKit
--hide
set_option linter.unusedSimpArgs false
set_option linter.unusedVariables false
set_option maxRecDepth 4000
theorem RdI.viaS {B g : Nat} {H H' : AH} {r : Rd} {s : Value} (h : RdI B H g r) (hs : ∀ o n e, s ≠ .slice (some ⟨g, o, none⟩) n e) (hB : ∀ q o n e, s = .slice (some ⟨q, o, none⟩) n e → B ≤ q) (k : ∀ p y, (∀ o n e, s ≠ .slice (some ⟨p, o, none⟩) n e) → H[p]? = some y → H'[p]? = some y) : RdI B H' g r := by
  obtain ⟨p, n, e, h1, h2, h3⟩ := h
  refine ⟨p, n, e, k _ _ hs h1, ?_, h3⟩
  rcases h2 with h2 | ⟨q, o, e', hv, h2⟩
  · exact .inl h2
  · refine .inr ⟨q, o, e', hv, ?_⟩
    rcases h2 with h2 | ⟨cs, hc, h4⟩
    · exact .inl h2
    · rcases h3 with h3 | h3
      · exact .inl h3
      · refine .inr ⟨cs, ?_, h4⟩
        have hq := h3 q o _ _ hv
        have hn : ∀ o n e, s ≠ .slice (some ⟨q, o, none⟩) n e := fun o n e hk => by have := hB _ _ _ _ hk; omega
        rcases AH.cells_cases hc with hk | hk
        · exact AH.cells_own (k _ _ hn hk)
        · exact AH.cells_ro (k _ _ hn hk)
theorem But.cells {g q : Nat} {H H' : AH} {cs : List Value} (h : But g H H') (hq : q ≠ g) (hc : H.cells q = some cs) : H'.cells q = some cs := by
  rcases AH.cells_cases hc with k | k
  · exact AH.cells_own (h _ _ hq k)
  · exact AH.cells_ro (h _ _ hq k)
theorem cells_keep {g q : Nat} {H H' : AH} (h : But g H H') (hq : q ≠ g) (hl : q < H.length) : H'.cells q = H.cells q := by
  have h1 : H[q]? = some H[q] := List.getElem?_eq_getElem hl
  have h2 := h _ _ hq h1
  simp only [AH.cells, h1, h2]
theorem OSn.lt {s b : Nat} {H : AH} {v : Value} {n : Nat} {cells : List Value} (h : OSn s b H v n cells) : ∀ q o m e, v = .slice (some ⟨q, o, .none⟩) m e → q < H.length ∧ b ≤ q := by
  intro q o m e k
  rcases h with ⟨h, _⟩ | ⟨g, h, h1, h2⟩
  · rw [h] at k; cases k
  · rw [h] at k; cases k; exact ⟨got_lt h1, h2⟩
theorem flE_snoc (l : List En) (x : En) : flE (l ++ [x]) = flE l ++ enc x := by simp [flE]
theorem num63_le (r : Rd) : (r.num 1 63).toNat ≤ 63 := by
  unfold Rd.num; split
  · assumption
  · decide
set_option maxHeartbeats 16000000 in
theorem parseE_calls (v : Value) (b : List UInt8) (H : AH) (hv : SL H v (b.map U8)) (hm : b.length ≤ 3000) :
    ACalls Tryd.prog 29 #[v] H fun w H' => (∃ x, w = .tuple #[x, .int .i64 (paEE b)] ∧ OSn 2 H.length H' x (paEL b).length (flE (paEL b))) ∧ Ext H H' := by
  have h1s : sizedN 1 = 1 := rfl
  have hu63 : U64 63 = .int .u64 63 := rfl
  have hp24 : placeN 24 = 24 := by decide
  have hbl : ∀ l : List UInt8, (⟨l.toArray⟩ : ByteArray) = bs l := fun _ => rfl
  have hbs : ∀ (a : ByteArray) (n : Int), abuildS Tryd.prog 54 1 [(0, .agg #[.string a, .int .i64 n])] = some ([.string a, .int .i64 n], 2) := by intro a n; kernel_rfl
  have hRl : ∀ i, (rdES ⟨b, 0⟩ i).b.length ≤ 3000 := fun i => Nat.le_trans (rdES_len _ i) hm
  have fo_ : True := trivial
  have N_ := Now.start H
  have f_ := N_.has
  simp only [Has] at f_
  refine acalls_of_body Tryd.func29 rfl Tryd.ntmps29 (by simp) ?_
  simp only [argsT, Nat.reduceAdd]
  iterate 1 ((repeat first | refine Qo ?_ | refine Qn ?_); (first | (refine QK (by kernel_rfl) ?_; intro K_ hK_; simp -implicitDefEqProofs (disch := (try simp only [sl]); try omega) only [sm,QJ,Qj,Qi,Qq,QC,bd,look,aput,Qm,ty,↓reduceIte,Nat.reduceEqDiff,Nat.reduceAdd,Nat.reduceSub,Nat.reduceMul,Int.reduceLT,Int.reduceLE,Int.reduceNeg,Int.reduceToNat,reduceCtorEq,Nat.reduceBEq,Nat.reduceBNe,Qk,Qe,Value.cells,am,mm,keep, f_, fo_, aint]; refine hK_ _ _ ?_; clear hK_ K_; repeat first | refine QL ?_ | refine QM ?_)))
  (repeat first | refine Qo ?_ | refine Qn ?_); refine QK (by kernel_rfl) ?_; intro K_ hK_; simp -implicitDefEqProofs (disch := (try simp only [sl]); try omega) only [sm,QJ,Qj,Qi,Qq,QC,bd,look,aput,Qm,ty,↓reduceIte,Nat.reduceEqDiff,Nat.reduceAdd,Nat.reduceSub,Nat.reduceMul,Int.reduceLT,Int.reduceLE,Int.reduceNeg,Int.reduceToNat,reduceCtorEq,Nat.reduceBEq,Nat.reduceBNe,Qk,Qe,Value.cells,am,mm,keep, f_, fo_, aint]
  refine ACalls.mono (rdread_calls v b H hv H.length hv.blk) ?_
  rintro _ H1 ⟨g, rfl, hg, i1, e1⟩
  replace N_ := N_.grow e1
  clear fo_; have fo_ := f_; clear f_
  have f_ := N_.has
  simp only [Has] at f_
  try simp -implicitDefEqProofs (disch := (try simp only [sl]); try omega) only [sm,QJ,Qj,Qi,Qq,QC,bd,look,aput,Qm,ty,↓reduceIte,Nat.reduceEqDiff,Nat.reduceAdd,Nat.reduceSub,Nat.reduceMul,Int.reduceLT,Int.reduceLE,Int.reduceNeg,Int.reduceToNat,reduceCtorEq,Nat.reduceBEq,Nat.reduceBNe,Qk,Qe,Value.cells,am,mm,keep, f_, fo_, aint]
  try (refine hK_ _ _ ?_; clear hK_ K_; repeat first | refine QL ?_ | refine QM ?_)
  iterate 1 ((repeat first | refine Qo ?_ | refine Qn ?_); (first | (refine QK (by kernel_rfl) ?_; intro K_ hK_; simp -implicitDefEqProofs (disch := (try simp only [sl]); try omega) only [sm,QJ,Qj,Qi,Qq,QC,bd,look,aput,ty,↓reduceIte,Nat.reduceEqDiff,Nat.reduceAdd,Nat.reduceSub,Nat.reduceMul,Int.reduceLT,Int.reduceLE,Int.reduceNeg,Int.reduceToNat,reduceCtorEq,Nat.reduceBEq,Nat.reduceBNe,Qk,Qe,Value.cells,am,mm,keep, f_, fo_, aint]; refine hK_ _ _ ?_; clear hK_ K_; repeat first | refine QL ?_ | refine QM ?_)))
  repeat first | refine Qo ?_ | refine Qn ?_
  refine awp_forK [4] (fun x : Nat × Value × AH => [(5, x.2.1)]) (fun x : Nat × Value × AH => x.2.2) (fun x : Nat × Value × AH => farE b x.1 ∧ RdI H.length x.2.2 g (rdES ⟨b, 0⟩ x.1) ∧ OSn 2 H.length x.2.2 x.2.1 x.1 (flE (rdEL ⟨b, 0⟩ x.1)) ∧ Ext H x.2.2 ∧ (∀ o m e, x.2.1 ≠ .slice (some ⟨g, o, none⟩) m e)) (fun x : Nat × Value × AH => mesE b x.1) ((0, .slice none 0 0, H1)) (⟨.inl ⟨Nat.zero_le _, fun j h => by omega⟩, i1, OSn.none _, e1, fun o m e h => by cases h⟩) (by repeat first | exact Forgets.nil | refine Forgets.cons (by first | (simp only [look, ↓reduceIte, Nat.reduceEqDiff]; done) | (simp only [look, ↓reduceIte, Nat.reduceEqDiff]; rfl) | simp [look]) ?_) rfl ?_
  rintro ⟨i, s, H3⟩ ⟨hi, i3, o3, x3, hsg⟩
  simp only [] at hi i3 o3 x3 hsg ⊢
  clear f_ fo_ N_
  have N_ : Now H H3 [] := ⟨x3, trivial⟩
  have f_ := N_.has
  simp only [Has] at f_
  have fo_ := True.intro
  (repeat first | refine Qo ?_ | refine Qn ?_); refine QK (by kernel_rfl) ?_; intro K_ hK_; simp -implicitDefEqProofs (disch := (try simp only [sl]); try omega) only [sm,QJ,Qj,Qi,Qq,QC,bd,look,aput,Qm,QI,abin,anil,ty,↓reduceIte,Nat.reduceEqDiff,Nat.reduceAdd,Nat.reduceSub,Nat.reduceMul,Int.reduceLT,Int.reduceLE,Int.reduceNeg,Int.reduceToNat,reduceCtorEq,Nat.reduceBEq,Nat.reduceBNe,Qk,Qe,Value.cells,am,mm,keep, f_, fo_, aint]
  refine ACalls.mono (rdleft_calls g _ H3 H.length hg i3) ?_
  rintro _ G ⟨rfl, rfl⟩
  by_cases hlt : 0 < (rdES ⟨b, 0⟩ i).left
  · obtain ⟨q1, q2⟩ := farE_left hi hlt
    have hli : ((rdES ⟨b, 0⟩ i).left : Int) > 0 := by omega
    have hgl := i3.lt
    have hso := o3.lt
    have hfl := flE_length (rdEL ⟨b, 0⟩ i)
    rw [rdEL_length] at hfl
    have hrs : rdES ⟨b, 0⟩ (i + 1) = ((rdES ⟨b, 0⟩ i).num' 1 63).text' 24 := rfl
    have hrl : rdEL ⟨b, 0⟩ (i + 1) = rdEL ⟨b, 0⟩ i ++ [(((rdES ⟨b, 0⟩ i).num' 1 63).text 24, (((rdES ⟨b, 0⟩ i).num 1 63).toNat : Int))] := rfl
    have hn63 := num63_le (rdES ⟨b, 0⟩ i)
    have hri := hRl i
    have hmes := mesE_next q1 q2
    have hnx := farE_next q1 q2
    try simp -implicitDefEqProofs (disch := (try simp only [sl]); try omega) only [sm,QJ,Qj,Qi,Qq,QC,bd,look,aput,Qm,QI,abin,anil,ty,↓reduceIte,Nat.reduceEqDiff,Nat.reduceAdd,Nat.reduceSub,Nat.reduceMul,Int.reduceLT,Int.reduceLE,Int.reduceNeg,Int.reduceToNat,reduceCtorEq,Nat.reduceBEq,Nat.reduceBNe,Qk,Qe,Value.cells,am,mm,keep, f_, fo_, aint, hli]
    try (refine hK_ _ _ ?_; clear hK_ K_; repeat first | refine QL ?_ | refine QM ?_)
    repeat first | refine Qo ?_ | refine Qn ?_
    refine awp_if true rfl (by first | (simp only [aeval_tmp, look, ↓reduceIte, Nat.reduceEqDiff]; try rfl) | rfl) (fun _ => ?_) (fun h => absurd h (by decide))
    iterate 1 ((repeat first | refine Qo ?_ | refine Qn ?_); (first | (refine QK (by kernel_rfl) ?_; intro K_ hK_; simp -implicitDefEqProofs (disch := (try simp only [sl]); try omega) only [sm,QJ,Qj,Qi,Qq,QC,Qz,bd,QF,look,aput,Qm,QH,Qg,ty,↓reduceIte,Nat.reduceEqDiff,Nat.reduceAdd,Nat.reduceSub,Nat.reduceMul,Int.reduceLT,Int.reduceLE,Int.reduceNeg,Int.reduceToNat,reduceCtorEq,Nat.reduceBEq,Nat.reduceBNe,Qk,Qe,Value.cells,am,mm,keep, f_, fo_, aint]; refine hK_ _ _ ?_; clear hK_ K_; repeat first | refine QL ?_ | refine QM ?_) | (refine awp_skip ?_; repeat first | refine QL ?_ | refine QM ?_)))
    (repeat first | refine Qo ?_ | refine Qn ?_); refine QK (by kernel_rfl) ?_; intro K_ hK_; simp -implicitDefEqProofs (disch := (try simp only [sl]); try omega) only [sm,QJ,Qj,Qi,Qq,QC,Qz,bd,QF,look,aput,Qm,QH,Qg,ty,↓reduceIte,Nat.reduceEqDiff,Nat.reduceAdd,Nat.reduceSub,Nat.reduceMul,Int.reduceLT,Int.reduceLE,Int.reduceNeg,Int.reduceToNat,reduceCtorEq,Nat.reduceBEq,Nat.reduceBNe,Qk,Qe,Value.cells,am,mm,keep, f_, fo_, aint]
    rw [← hu63]
    refine ACalls.mono (rdnum_calls g 1 63 _ G H.length hg i3 (by omega) (by decide) (by decide)) ?_
    rintro _ H4 ⟨rfl, i4, b4⟩
    rw [h1s] at i4 ⊢
    have hx4 : Ext H H4 := fun p y hy => b4 p y (by have := got_lt hy; omega) (x3 _ _ hy)
    have o4 := o3.butn hsg b4
    have hr4 : ((rdES ⟨b, 0⟩ i).num' 1 63).b.length ≤ 3000 := Nat.le_trans (numP_len _ _ _) hri
    generalize (rdES ⟨b, 0⟩ i).num 1 63 = n1 at *
    generalize (rdES ⟨b, 0⟩ i).num' 1 63 = r4 at *
    have hw1 : IntKind.i64.wrap (n1.toNat : Int) = (n1.toNat : Int) := wi64 _ (by omega) (by omega)
    try simp -implicitDefEqProofs (disch := (try simp only [sl]); try omega) only [sm,QJ,Qj,Qi,Qq,QC,Qz,bd,QF,look,aput,Qm,QH,Qg,ty,↓reduceIte,Nat.reduceEqDiff,Nat.reduceAdd,Nat.reduceSub,Nat.reduceMul,Int.reduceLT,Int.reduceLE,Int.reduceNeg,Int.reduceToNat,reduceCtorEq,Nat.reduceBEq,Nat.reduceBNe,Qk,Qe,Value.cells,am,mm,keep, f_, fo_, aint, hw1]
    try (refine hK_ _ _ ?_; clear hK_ K_; repeat first | refine QL ?_ | refine QM ?_)
    refine ACalls.mono (rdtext_calls g 24 _ H4 H.length hg i4 (by omega) (by decide) (by decide)) ?_
    rintro w2 H5 ⟨s5, i5, b5, fr5⟩
    rw [hp24] at s5 i5
    have o5 := o4.butn hsg b5
    have hx5 : Ext H H5 := fun p y hy => b5 p y (by have := got_lt hy; omega) (hx4 _ _ hy)
    generalize r4.text 24 = t2 at *
    generalize r4.text' 24 = r5 at *
    obtain ⟨xx, hxx⟩ : ∃ x : En, x = (t2, (n1.toNat : Int)) := ⟨_, rfl⟩
    rw [← hxx] at hrl
    rcases s5.cv with ⟨rfl, rfl⟩ | ⟨g2, o2, e2, rfl, rfl⟩ | ⟨g2, o2, e2, cs2, rfl, hc2, hf2⟩
    all_goals
      have hk2 := True.intro
      try (have hk2 := And.intro hc2 hf2)
      obtain ⟨s6, H6, ha6, o6, k6, w6⟩ := OSn.app1 (P := Tryd.prog) (t := 54) (tx := 54) (bytes := 24) (H := H5) (c := enc xx) (by simp only [ty]) (by simp only [ty]) o5 hfl (enc_length xx) (enc_cellv xx) (by decide) (by omega) (by omega) (by have := i5.lt; omega)
      simp only [hxx, enc] at ha6
      rw [← flE_snoc, ← hrl] at o6
      have i6 : RdI H.length H6 g (rdES ⟨b, 0⟩ (i + 1)) := by
        rw [hrs]; exact i5.viaS hsg (fun q o n e k => (hso _ _ _ _ k).2) w6
      have x6 : Ext H H6 := k6.ext (Nat.le_refl _) hx5
      have hg5 := i5.lt
      try simp -implicitDefEqProofs (disch := (try simp only [sl]); try omega) only [sm,QJ,Qj,Qi,Qq,QC,Qz,bd,QF,look,aput,Qm,QH,Qg,ty,↓reduceIte,Nat.reduceEqDiff,Nat.reduceAdd,Nat.reduceSub,Nat.reduceMul,Int.reduceLT,Int.reduceLE,Int.reduceNeg,Int.reduceToNat,reduceCtorEq,Nat.reduceBEq,Nat.reduceBNe,Qk,Qe,Value.cells,am,mm,keep, f_, fo_, aint, hbl, hk2, bd, hbs, ha6]
      try (refine hK_ _ _ ?_; clear hK_ K_; repeat first | refine QL ?_ | refine QM ?_)
      refine ⟨(i + 1, s6, H6), ⟨hnx, i6, o6.low (by omega), x6, fun o m e k => by have := (o6.lt _ _ _ _ k).2; omega⟩, (by repeat first | exact Forgets.nil | refine Forgets.cons (by first | (simp only [look, ↓reduceIte, Nat.reduceEqDiff]; done) | (simp only [look, ↓reduceIte, Nat.reduceEqDiff]; rfl) | simp [look]) ?_), ?_⟩
      first | omega | exact ⟨rfl, by omega⟩ | exact ⟨rfl, by simp only []; omega⟩ | (simp only []; omega)
  · have hlz : (rdES ⟨b, 0⟩ i).left = 0 := by omega
    have hli : ¬ ((rdES ⟨b, 0⟩ i).left : Int) > 0 := by omega
    try simp -implicitDefEqProofs (disch := (try simp only [sl]); try omega) only [sm,QJ,Qj,Qi,Qq,QC,bd,look,aput,Qm,QI,abin,anil,ty,↓reduceIte,Nat.reduceEqDiff,Nat.reduceAdd,Nat.reduceSub,Nat.reduceMul,Int.reduceLT,Int.reduceLE,Int.reduceNeg,Int.reduceToNat,reduceCtorEq,Nat.reduceBEq,Nat.reduceBNe,Qk,Qe,Value.cells,am,mm,keep, f_, fo_, aint, hbl, hli]
    try (refine hK_ _ _ ?_; clear hK_ K_; repeat first | refine QL ?_ | refine QM ?_)
    repeat first | refine Qo ?_ | refine Qn ?_
    refine awp_if false rfl (by first | (simp only [aeval_tmp, look, ↓reduceIte, Nat.reduceEqDiff]; try rfl) | rfl) (fun h => absurd h (by decide)) (fun _ => ?_)
    iterate 1 ((repeat first | refine Qo ?_ | refine Qn ?_); (first | (refine QK (by kernel_rfl) ?_; intro K_ hK_; simp -implicitDefEqProofs (disch := (try simp only [sl]); try omega) only [sm,QJ,Qj,Qi,Qq,QC,bd,look,aput,Qm,QI,abin,anil,QG,ty,↓reduceIte,Nat.reduceEqDiff,Nat.reduceAdd,Nat.reduceSub,Nat.reduceMul,Int.reduceLT,Int.reduceLE,Int.reduceNeg,Int.reduceToNat,reduceCtorEq,Nat.reduceBEq,Nat.reduceBNe,Qk,Qe,Value.cells,am,mm,keep, f_, fo_, aint, hbl]; refine hK_ _ _ ?_; clear hK_ K_; repeat first | refine QL ?_ | refine QM ?_) | (refine awp_exit ?_; (repeat first | refine aThen_exit ?_ | refine aIn_out rfl ?_); refine aIn_here ?_; repeat first | refine QL ?_ | refine QM ?_)))
    (repeat first | refine Qo ?_ | refine Qn ?_); refine QK (by kernel_rfl) ?_; intro K_ hK_; simp -implicitDefEqProofs (disch := (try simp only [sl]); try omega) only [sm,QJ,Qj,Qi,Qq,QC,bd,look,aput,Qm,QI,abin,anil,QG,ty,↓reduceIte,Nat.reduceEqDiff,Nat.reduceAdd,Nat.reduceSub,Nat.reduceMul,Int.reduceLT,Int.reduceLE,Int.reduceNeg,Int.reduceToNat,reduceCtorEq,Nat.reduceBEq,Nat.reduceBNe,Qk,Qe,Value.cells,am,mm,keep, f_, fo_, aint, hbl]
    refine ACalls.mono (rderr_calls g _ G H.length hg i3) ?_
    rintro _ G2 ⟨rfl, rfl⟩
    rcases farE_end hi hlz with ⟨h0, hL, hin, hok⟩ | ⟨h0, hok⟩
    · have h00 : ((0 : Int) != 0) = false := rfl
      rw [hL, hin] at o3
      have o3s : SLn G2 s (lsE b (b.length / 26)).length (flE (lsE b (b.length / 26))) := by rw [lsE_length]; exact o3.sln
      rw [h0]
      try simp -implicitDefEqProofs (disch := (try simp only [sl]); try omega) only [sm,QJ,Qj,Qi,Qq,QC,bd,look,aput,Qm,QI,abin,anil,QG,ty,↓reduceIte,Nat.reduceEqDiff,Nat.reduceAdd,Nat.reduceSub,Nat.reduceMul,Int.reduceLT,Int.reduceLE,Int.reduceNeg,Int.reduceToNat,reduceCtorEq,Nat.reduceBEq,Nat.reduceBNe,Qk,Qe,Value.cells,am,mm,keep, f_, fo_, aint, hbl, h00]
      try (refine hK_ _ _ ?_; clear hK_ K_; repeat first | refine QL ?_ | refine QM ?_)
      refine ACalls.mono (mayE_calls s (lsE b (b.length / 26)) G2 o3s (by rw [lsE_length]; omega)) ?_
      rintro _ H5 ⟨rfl, e5⟩
      by_cases hk : mayE (lsE b (b.length / 26))
      · have hG := hok.1 hk
        try simp -implicitDefEqProofs (disch := (try simp only [sl]); try omega) only [sm,QJ,Qj,Qi,Qq,QC,bd,look,aput,Qm,QI,abin,anil,QG,ty,↓reduceIte,Nat.reduceEqDiff,Nat.reduceAdd,Nat.reduceSub,Nat.reduceMul,Int.reduceLT,Int.reduceLE,Int.reduceNeg,Int.reduceToNat,reduceCtorEq,Nat.reduceBEq,Nat.reduceBNe,Qk,Qe,Value.cells,am,mm,keep, f_, fo_, aint, hbl, decide_eq_true hk, Bool.not_true]
        try (refine hK_ _ _ ?_; clear hK_ K_; repeat first | refine QL ?_ | refine QM ?_)
        repeat first | refine Qo ?_ | refine Qn ?_
        refine awp_if false rfl (by first | (simp only [aeval_tmp, look, ↓reduceIte, Nat.reduceEqDiff]; try rfl) | rfl) (fun h => absurd h (by decide)) (fun _ => ?_)
        iterate 2 ((repeat first | refine Qo ?_ | refine Qn ?_); (first | (refine QK (by kernel_rfl) ?_; intro K_ hK_; simp -implicitDefEqProofs (disch := (try simp only [sl]); try omega) only [sm,QJ,Qj,Qi,Qq,QC,bd,look,aput,ty,↓reduceIte,Nat.reduceEqDiff,Nat.reduceAdd,Nat.reduceSub,Nat.reduceMul,Int.reduceLT,Int.reduceLE,Int.reduceNeg,Int.reduceToNat,reduceCtorEq,Nat.reduceBEq,Nat.reduceBNe,Qk,Qe,Value.cells,am,mm,keep, f_, fo_, aint, hbl]; refine hK_ _ _ ?_; clear hK_ K_; repeat first | refine QL ?_ | refine QM ?_) | (refine awp_skip ?_; repeat first | refine QL ?_ | refine QM ?_)))
        first | refine awp_ret ?_ | skip
        show ∃ v, aresults Tryd.prog Tryd.f29 _ _ = some v ∧ _
        rw [aresults_2 (r := .tmp 2) (s := .tmp 3) (by kernel_rfl)]
        simp -implicitDefEqProofs (disch := (try simp only [sl]); try omega) only [aresult, Option.some.injEq, exists_eq_left', sm,Qj,Qi,Qq,QC,Qz,bd,QF,look,aput,QB,Qf,QA,ty,↓reduceIte,Nat.reduceEqDiff,Nat.reduceAdd,Nat.reduceSub,Nat.reduceMul,Int.reduceLT,Int.reduceLE,Int.reduceNeg,Int.reduceToNat,reduceCtorEq,Nat.reduceBEq,Nat.reduceBNe,Qk,Qe,Value.cells,am,mm,keep, f_, fo_, aint, hbl]
        rw [paEE, paEL, if_pos hG, if_pos hG, lsE_length]
        exact ⟨⟨_, rfl, o3.mono e5⟩, x3.trans e5⟩
      · have hG : ¬ okE b := fun h => hk (hok.2 h)
        try simp -implicitDefEqProofs (disch := (try simp only [sl]); try omega) only [sm,QJ,Qj,Qi,Qq,QC,bd,look,aput,Qm,QI,abin,anil,QG,ty,↓reduceIte,Nat.reduceEqDiff,Nat.reduceAdd,Nat.reduceSub,Nat.reduceMul,Int.reduceLT,Int.reduceLE,Int.reduceNeg,Int.reduceToNat,reduceCtorEq,Nat.reduceBEq,Nat.reduceBNe,Qk,Qe,Value.cells,am,mm,keep, f_, fo_, aint, hbl, decide_eq_false hk, Bool.not_false]
        try (refine hK_ _ _ ?_; clear hK_ K_; repeat first | refine QL ?_ | refine QM ?_)
        repeat first | refine Qo ?_ | refine Qn ?_
        refine awp_if true rfl (by first | (simp only [aeval_tmp, look, ↓reduceIte, Nat.reduceEqDiff]; try rfl) | rfl) (fun _ => ?_) (fun h => absurd h (by decide))
        iterate 1 ((repeat first | refine Qo ?_ | refine Qn ?_); (first | (refine QK (by kernel_rfl) ?_; intro K_ hK_; simp -implicitDefEqProofs (disch := (try simp only [sl]); try omega) only [sm,QJ,Qj,Qi,Qq,QC,bd,look,aput,ty,↓reduceIte,Nat.reduceEqDiff,Nat.reduceAdd,Nat.reduceSub,Nat.reduceMul,Int.reduceLT,Int.reduceLE,Int.reduceNeg,Int.reduceToNat,reduceCtorEq,Nat.reduceBEq,Nat.reduceBNe,Qk,Qe,Value.cells,am,mm,keep, f_, fo_, aint, hbl]; refine hK_ _ _ ?_; clear hK_ K_; repeat first | refine QL ?_ | refine QM ?_)))
        first | refine awp_ret ?_ | skip
        show ∃ v, aresults Tryd.prog Tryd.f29 _ _ = some v ∧ _
        rw [aresults_2 (r := .tmp 2) (s := .tmp 3) (by kernel_rfl)]
        simp -implicitDefEqProofs (disch := (try simp only [sl]); try omega) only [aresult, Option.some.injEq, exists_eq_left', sm,Qj,Qi,Qq,QC,Qz,bd,QF,look,aput,QB,Qf,QA,ty,↓reduceIte,Nat.reduceEqDiff,Nat.reduceAdd,Nat.reduceSub,Nat.reduceMul,Int.reduceLT,Int.reduceLE,Int.reduceNeg,Int.reduceToNat,reduceCtorEq,Nat.reduceBEq,Nat.reduceBNe,Qk,Qe,Value.cells,am,mm,keep, f_, fo_, aint, hbl]
        rw [paEE, paEL, if_neg hG, if_neg hG]
        exact ⟨⟨_, rfl, OSn.none _⟩, x3.trans e5⟩
    · have hr : ((rdES ⟨b, 0⟩ i).e != 0) = true := by rw [bne_iff_ne]; exact h0
      try simp -implicitDefEqProofs (disch := (try simp only [sl]); try omega) only [sm,QJ,Qj,Qi,Qq,QC,bd,look,aput,Qm,QI,abin,anil,QG,ty,↓reduceIte,Nat.reduceEqDiff,Nat.reduceAdd,Nat.reduceSub,Nat.reduceMul,Int.reduceLT,Int.reduceLE,Int.reduceNeg,Int.reduceToNat,reduceCtorEq,Nat.reduceBEq,Nat.reduceBNe,Qk,Qe,Value.cells,am,mm,keep, f_, fo_, aint, hbl, hr]
      try (refine hK_ _ _ ?_; clear hK_ K_; repeat first | refine QL ?_ | refine QM ?_)
      try simp -implicitDefEqProofs (disch := (try simp only [sl]); try omega) only [sm,QJ,Qj,Qi,Qq,QC,bd,look,aput,Qm,QI,abin,anil,QG,ty,↓reduceIte,Nat.reduceEqDiff,Nat.reduceAdd,Nat.reduceSub,Nat.reduceMul,Int.reduceLT,Int.reduceLE,Int.reduceNeg,Int.reduceToNat,reduceCtorEq,Nat.reduceBEq,Nat.reduceBNe,Qk,Qe,Value.cells,am,mm,keep, f_, fo_, aint, hbl]
      try (refine hK_ _ _ ?_; clear hK_ K_; repeat first | refine QL ?_ | refine QM ?_)
      repeat first | refine Qo ?_ | refine Qn ?_
      refine awp_if true rfl (by first | (simp only [aeval_tmp, look, ↓reduceIte, Nat.reduceEqDiff]; try rfl) | rfl) (fun _ => ?_) (fun h => absurd h (by decide))
      iterate 1 ((repeat first | refine Qo ?_ | refine Qn ?_); (first | (refine QK (by kernel_rfl) ?_; intro K_ hK_; simp -implicitDefEqProofs (disch := (try simp only [sl]); try omega) only [sm,QJ,Qj,Qi,Qq,QC,bd,look,aput,ty,↓reduceIte,Nat.reduceEqDiff,Nat.reduceAdd,Nat.reduceSub,Nat.reduceMul,Int.reduceLT,Int.reduceLE,Int.reduceNeg,Int.reduceToNat,reduceCtorEq,Nat.reduceBEq,Nat.reduceBNe,Qk,Qe,Value.cells,am,mm,keep, f_, fo_, aint, hbl]; refine hK_ _ _ ?_; clear hK_ K_; repeat first | refine QL ?_ | refine QM ?_)))
      first | refine awp_ret ?_ | skip
      show ∃ v, aresults Tryd.prog Tryd.f29 _ _ = some v ∧ _
      rw [aresults_2 (r := .tmp 2) (s := .tmp 3) (by kernel_rfl)]
      simp -implicitDefEqProofs (disch := (try simp only [sl]); try omega) only [aresult, Option.some.injEq, exists_eq_left', sm,Qj,Qi,Qq,QC,Qz,bd,QF,look,aput,QB,Qf,QA,ty,↓reduceIte,Nat.reduceEqDiff,Nat.reduceAdd,Nat.reduceSub,Nat.reduceMul,Int.reduceLT,Int.reduceLE,Int.reduceNeg,Int.reduceToNat,reduceCtorEq,Nat.reduceBEq,Nat.reduceBNe,Qk,Qe,Value.cells,am,mm,keep, f_, fo_, aint, hbl]
      rw [paEE, paEL, if_neg hok, if_neg hok]
      exact ⟨⟨_, rfl, OSn.none _⟩, x3⟩
end Go.Proofs.YtldfnfpinemedaaDoor
