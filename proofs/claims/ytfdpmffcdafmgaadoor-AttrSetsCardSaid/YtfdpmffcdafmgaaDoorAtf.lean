/- attr: Clone, DeleteFunc of any pairs. -/
import Derived.Test.YtfdpmffcdafmgaaDoorAte
import Derived.Test.YtfdpmffcdafmgaaDoorCpy
namespace Go.Proofs.YtfdpmffcdafmgaaDoor
open Go Go.RowKit
--hide
set_option linter.unusedSimpArgs false
set_option linter.unusedVariables false
set_option maxRecDepth 4000
theorem flP_set (L : List Pr) (k : Nat) (hk : k < L.length) (x : Pr) : ovr (flP L) (k * 2) (prc x) = flP (L.set k x) := by
  rw [ovr_mid _ _ _ (by rw [prc_length]; exact Nat.le_refl _), prc_length]
  have := flatG_set 2 prc L (prc_hl L) k hk x
  rw [Nat.mul_comm 2 k] at this
  exact this.symm
theorem flP_at (L : List Pr) (k : Nat) (hk : k < L.length) : ((flP L).drop (k * 2)).take 2 = prc L[k] := flatS 2 prc L (prc_hl L) k hk
/-- How a row of pairs stands while those of a name are left out of its first j. -/
def Lw (l : List Pr) (n : List UInt8) (j : Nat) : List Pr := wo (l.take j) n ++ l.drop (wo (l.take j) n).length
theorem wok_le (l : List Pr) (n : List UInt8) (j : Nat) : (wo (l.take j) n).length ≤ j := Nat.le_trans (wo_len _ _) (by rw [List.length_take]; omega)
theorem Lw_length (l : List Pr) (n : List UInt8) (j : Nat) (hj : j ≤ l.length) : (Lw l n j).length = l.length := by
  have := wok_le l n j
  rw [Lw, List.length_append, List.length_drop]; omega
theorem wo_ne {l : List Pr} {n : List UInt8} {j : Nat} (hj : j < l.length) (h : l[j].1 ≠ n) : wo (l.take (j + 1)) n = wo (l.take j) n ++ [l[j]] := by
  have : (l[j].1 == n) = false := by rw [beq_eq_false_iff_ne]; exact h
  rw [List.take_succ_eq_append_getElem hj, wo, List.filter_append, List.filter_cons, this]; rfl
theorem wo_is {l : List Pr} {n : List UInt8} {j : Nat} (hj : j < l.length) (h : l[j].1 = n) : wo (l.take (j + 1)) n = wo (l.take j) n := by
  have : (l[j].1 == n) = true := by rw [beq_iff_eq]; exact h
  rw [List.take_succ_eq_append_getElem hj, wo, List.filter_append, List.filter_cons, this]; simp [wo]
theorem wo_all {l : List Pr} {n : List UInt8} (h : ∀ y ∈ l, y.1 ≠ n) : wo l n = l := by
  rw [wo, List.filter_eq_self]
  intro x hx
  have : (x.1 == n) = false := by rw [beq_eq_false_iff_ne]; exact h x hx
  rw [this]; rfl
theorem Lw_first {l : List Pr} {n : List UInt8} {i : Nat} (hi : i < l.length) (he : l[i].1 = n) (hb : ∀ y ∈ l.take i, y.1 ≠ n) : (wo (l.take (i + 1)) n).length = i ∧ Lw l n (i + 1) = l := by
  have h1 : wo (l.take (i + 1)) n = l.take i := by rw [wo_is hi he, wo_all hb]
  have h2 : (l.take i).length = i := by rw [List.length_take]; omega
  refine ⟨by rw [h1, h2], ?_⟩
  rw [Lw, h1, h2, List.take_append_drop]
theorem Lw_at {l : List Pr} {n : List UInt8} {j : Nat} (hj : j < l.length) (hL : j < (Lw l n j).length) : (Lw l n j)[j] = l[j] := by
  have hk := wok_le l n j
  apply Option.some.inj
  rw [← List.getElem?_eq_getElem hL, ← List.getElem?_eq_getElem hj, Lw, List.getElem?_append_right hk, List.getElem?_drop]
  congr 1; omega
theorem Lw_ne {l : List Pr} {n : List UInt8} {j : Nat} (hj : j < l.length) (h : l[j].1 ≠ n) : (Lw l n j).set (wo (l.take j) n).length l[j] = Lw l n (j + 1) ∧ (wo (l.take (j + 1)) n).length = (wo (l.take j) n).length + 1 := by
  have hk := wok_le l n j
  have hw := wo_ne hj h
  refine ⟨?_, by rw [hw, List.length_append]; rfl⟩
  unfold Lw
  rw [hw]
  generalize wo (l.take j) n = K at *
  rw [List.set_append_right _ _ (Nat.le_refl _), Nat.sub_self, List.drop_eq_getElem_cons (by omega : K.length < l.length), List.set_cons_zero, List.length_append, List.append_assoc]
  rfl
theorem Lw_is {l : List Pr} {n : List UInt8} {j : Nat} (hj : j < l.length) (h : l[j].1 = n) : Lw l n (j + 1) = Lw l n j := by rw [Lw, Lw, wo_is hj h]
/-- A slice of an owned block's first pairs. -/
def DSn (b : Nat) (H : AH) (w : Value) (l : List Pr) : Prop := (w = .slice none 0 0 ∧ l = []) ∨ ∃ g cs, w = .slice (some ⟨g, 0, none⟩) l.length 2 ∧ H[g]? = some (.own cs) ∧ l.length * 2 ≤ cs.length ∧ cs.take (l.length * 2) = flP l ∧ b ≤ g
theorem DSn.sln {b : Nat} {H : AH} {w : Value} {l : List Pr} (h : DSn b H w l) : SLn H w l.length (flP l) := by
  rcases h with ⟨rfl, rfl⟩ | ⟨g, cs, h, h1, h2, h3, h4⟩
  · exact .inl ⟨rfl, rfl, rfl⟩
  · exact .inr ⟨g, 0, 2, h, .inr ⟨cs, AH.cells_own h1, by rw [flP_length]; omega, by rw [List.drop_zero, flP_length]; exact h3⟩⟩
theorem DSn.of {b : Nat} {H : AH} {w : Value} {l : List Pr} (h : OSn 2 b H w l.length (flP l)) : DSn b H w l := by
  rcases h with ⟨h, h0, h1⟩ | ⟨g, h, h1, h2⟩
  · exact .inl ⟨h, List.eq_nil_of_length_eq_zero h0⟩
  · exact .inr ⟨g, _, h, h1, by rw [flP_length]; omega, by rw [← flP_length, List.take_length], h2⟩
theorem DSn.mono {b : Nat} {H H' : AH} {w : Value} {l : List Pr} (h : DSn b H w l) (e : Ext H H') : DSn b H' w l := by
  rcases h with h | ⟨g, cs, h, h1, h2⟩
  · exact .inl h
  · exact .inr ⟨g, cs, h, e _ _ h1, h2⟩
theorem DSn.low {b c : Nat} {H : AH} {w : Value} {l : List Pr} (h : DSn b H w l) (hc : c ≤ b) : DSn c H w l := by
  rcases h with h | ⟨g, cs, h, h1, h2, h3, h4⟩
  · exact .inl h
  · exact .inr ⟨g, cs, h, h1, h2, h3, by omega⟩
theorem asrc_sln {P : Program} {H : AH} {t tx : TypeId} {v : Value} {n s bytes : Nat} {cells : List Value} (ht : sliceT P tx = true) (h : SLn H v n cells) (hc : cells.length = n * s) (hs : 0 < s) (hv : cells.all cellv = true) : asrcZ P H t tx v s bytes = some (cells, n) := by
  rw [asrcZ_slice ht]
  unfold asrc
  rcases h with ⟨rfl, rfl, rfl⟩ | ⟨g, o, e, rfl, h⟩
  · simp only [ht, if_true]
  · simp only [ht, if_true]
    by_cases hn : n = 0
    · subst hn
      rw [Nat.zero_mul] at hc
      rw [if_pos rfl, List.eq_nil_of_length_eq_zero hc]
    · rw [if_neg hn]
      rcases h with ⟨_, h0⟩ | ⟨cs, h1, h2, h3⟩
      · exact absurd h0 hn
      · rw [hc] at h2 h3
        simp only [h1, h3, hv]
        rw [if_pos ⟨h2, trivial⟩]
theorem flP_cellv (l : List Pr) : (flP l).all cellv = true := by
  rw [List.all_eq_true]
  intro x hx
  rw [List.mem_flatten] at hx
  obtain ⟨c, hc, hx⟩ := hx
  rw [List.mem_map] at hc
  obtain ⟨p, _, rfl⟩ := hc
  exact List.all_eq_true.1 (prc_cellv p) x hx
theorem app_empty {P : Program} {H : AH} {t tx q n bytes : Nat} {v : Value} {l : List Pr} (he : elemT P t = some (2, bytes)) (ht : sliceT P tx = true) (hq : H[q]? = some (.own [])) (h : SLn H v l.length (flP l)) (hn : 0 < l.length) (hb : l.length * bytes ≤ 140737488355328) (hm : l.length ≤ 9223372036854775807) :
    aappend P H t tx (.slice (some ⟨q, 0, none⟩) 0 2) v = some (.slice (some ⟨H.length, 0, none⟩) l.length 2, H.set q .dead ++ [.own (flP l)]) := by
  unfold aappend
  simp only [he, asrc_sln (t := t) (bytes := bytes) ht h (flP_length l) (by decide) (flP_cellv l), hq]
  rw [if_neg (by omega), if_pos ⟨trivial, by decide, by omega, by rw [Nat.zero_add]; exact hb, by omega⟩]
  simp
theorem app_empty0 {P : Program} {H : AH} {t tx q bytes : Nat} {v : Value} (he : elemT P t = some (2, bytes)) (ht : sliceT P tx = true) (h : SLn H v 0 []) :
    aappend P H t tx (.slice (some ⟨q, 0, none⟩) 0 2) v = some (.slice (some ⟨q, 0, none⟩) 0 2, H) := by
  unfold aappend
  simp only [he, asrc_sln (t := t) (bytes := bytes) (s := 2) ht h (by rfl) (by decide) rfl]
  rw [if_pos trivial]
set_option maxHeartbeats 8000000 in
theorem pclone_calls (v : Value) (l : List Pr) (H : AH) (hv : SLn H v l.length (flP l)) (hm : l.length ≤ 1000) :
    ACalls Tryd.prog 39 #[v] H fun w H' => OSn 2 H.length H' w l.length (flP l) ∧ Ext H H' := by
  have hv0 := hv
  rcases hv with ⟨rfl, h1, h0⟩ | ⟨g, o, e, rfl, h⟩
  · refine (pclone_nil H).mono ?_
    rintro w H' ⟨rfl, rfl⟩
    exact ⟨.inl ⟨rfl, h0, h1⟩, Ext.refl _⟩
  · clear h
    by_cases hl : l = []
    · subst hl
      have hv0 : SLn H (.slice (some ⟨g, o, none⟩) 0 e) 0 [] := hv0
      have ha := app_empty0 (P := Tryd.prog) (H := H ++ [ABlk.own []]) (t := 29) (tx := 29) (q := H.length) (bytes := 32) (by simp only [ty]) (by simp only [ty]) (hv0.mono (Ext.push _ _))
      have e1 : Ext H (H ++ [ABlk.own []]) := Ext.push _ _
      have q1 : (H ++ [ABlk.own []])[H.length]? = some (.own []) := gpush _ _
      have fo_ : True := trivial
      have N_ := Now.start H
      have f_ := N_.has
      simp only [Has] at f_
      refine acalls_of_body Tryd.func39 rfl Tryd.ntmps39 (by simp) ?_
      simp only [argsT, Nat.reduceAdd]
      iterate 2 ((repeat first | refine Qo ?_ | refine Qn ?_); (first | (refine QK (by kernel_rfl) ?_; intro K_ hK_; simp -implicitDefEqProofs (disch := (try simp only [sl]); try omega) only [sm,QJ,Qj,Qi,Qq,QC,bd,look,aput,QI,abin,anil,ty,↓reduceIte,Nat.reduceEqDiff,Nat.reduceAdd,Nat.reduceSub,Nat.reduceMul,Int.reduceLT,Int.reduceLE,Int.reduceNeg,Int.reduceToNat,reduceCtorEq,Nat.reduceBEq,Nat.reduceBNe,Qk,Qe,Value.cells,am,mm,keep, aint, ha]; refine hK_ _ _ ?_; clear hK_ K_; repeat first | refine QL ?_ | refine QM ?_)))
      repeat first | refine Qo ?_ | refine Qn ?_
      refine awp_if false rfl (by first | (simp only [aeval_tmp, look, ↓reduceIte, Nat.reduceEqDiff]; try rfl) | rfl) (fun h => absurd h (by decide)) (fun _ => ?_)
      iterate 2 ((repeat first | refine Qo ?_ | refine Qn ?_); (first | (refine QK (by kernel_rfl) ?_; intro K_ hK_; simp -implicitDefEqProofs (disch := (try simp only [sl]); try omega) only [sm,QJ,Qj,Qi,Qq,QC,bd,look,aput,Qm,ty,↓reduceIte,Nat.reduceEqDiff,Nat.reduceAdd,Nat.reduceSub,Nat.reduceMul,Int.reduceLT,Int.reduceLE,Int.reduceNeg,Int.reduceToNat,reduceCtorEq,Nat.reduceBEq,Nat.reduceBNe,Qk,Qe,Value.cells,am,mm,keep, aint, ha, bda]; refine hK_ _ _ ?_; clear hK_ K_; repeat first | refine QL ?_ | refine QM ?_) | (refine awp_skip ?_; repeat first | refine QL ?_ | refine QM ?_)))
      first | refine awp_ret ?_ | skip
      show ∃ v, aresults Tryd.prog Tryd.f39 _ _ = some v ∧ _
      rw [aresults_1 (r := .tmp 2) (by kernel_rfl)]
      simp -implicitDefEqProofs (disch := (try simp only [sl]); try omega) only [aresult, Option.some.injEq, exists_eq_left', sm,Qj,Qi,Qq,QC,Qz,bd,QF,look,aput,QB,Qf,QA,ty,↓reduceIte,Nat.reduceEqDiff,Nat.reduceAdd,Nat.reduceSub,Nat.reduceMul,Int.reduceLT,Int.reduceLE,Int.reduceNeg,Int.reduceToNat,reduceCtorEq,Nat.reduceBEq,Nat.reduceBNe,Qk,Qe,Value.cells,am,mm,keep, aint, ha]
      exact ⟨.inr ⟨H.length, rfl, q1, Nat.le_refl _⟩, e1⟩
    · have hp := List.length_pos_iff.2 hl
      have ha := app_empty (P := Tryd.prog) (H := H ++ [ABlk.own []]) (t := 29) (tx := 29) (q := H.length) (bytes := 32) (n := l.length) (by simp only [ty]) (by simp only [ty]) (gpush _ _) (hv0.mono (Ext.push _ _)) hp (by omega) (by omega)
      have e1 : Ext H (H ++ [ABlk.own []]) := Ext.push _ _
      have h1 : (H ++ [ABlk.own []]).length = H.length + 1 := by rw [List.length_append]; rfl
      obtain ⟨H2, hH2⟩ : ∃ H2, H2 = (H ++ [ABlk.own []]).set H.length .dead ++ [.own (flP l)] := ⟨_, rfl⟩
      rw [← hH2, h1] at ha
      have q2 : H2[H.length + 1]? = some (.own (flP l)) := by
        have : H.length + 1 = ((H ++ [ABlk.own []]).set H.length ABlk.dead).length := by rw [List.length_set, h1]
        rw [hH2, this]; exact gpush _ _
      have x2 : Ext H H2 := by rw [hH2]; exact (e1.set _ (Nat.le_refl _)).pushed _
      have fo_ : True := trivial
      have N_ := Now.start H
      have f_ := N_.has
      simp only [Has] at f_
      refine acalls_of_body Tryd.func39 rfl Tryd.ntmps39 (by simp) ?_
      simp only [argsT, Nat.reduceAdd]
      iterate 2 ((repeat first | refine Qo ?_ | refine Qn ?_); (first | (refine QK (by kernel_rfl) ?_; intro K_ hK_; simp -implicitDefEqProofs (disch := (try simp only [sl]); try omega) only [sm,QJ,Qj,Qi,Qq,QC,bd,look,aput,QI,abin,anil,ty,↓reduceIte,Nat.reduceEqDiff,Nat.reduceAdd,Nat.reduceSub,Nat.reduceMul,Int.reduceLT,Int.reduceLE,Int.reduceNeg,Int.reduceToNat,reduceCtorEq,Nat.reduceBEq,Nat.reduceBNe,Qk,Qe,Value.cells,am,mm,keep, aint, ha]; refine hK_ _ _ ?_; clear hK_ K_; repeat first | refine QL ?_ | refine QM ?_)))
      repeat first | refine Qo ?_ | refine Qn ?_
      refine awp_if false rfl (by first | (simp only [aeval_tmp, look, ↓reduceIte, Nat.reduceEqDiff]; try rfl) | rfl) (fun h => absurd h (by decide)) (fun _ => ?_)
      iterate 2 ((repeat first | refine Qo ?_ | refine Qn ?_); (first | (refine QK (by kernel_rfl) ?_; intro K_ hK_; simp -implicitDefEqProofs (disch := (try simp only [sl]); try omega) only [sm,QJ,Qj,Qi,Qq,QC,bd,look,aput,Qm,ty,↓reduceIte,Nat.reduceEqDiff,Nat.reduceAdd,Nat.reduceSub,Nat.reduceMul,Int.reduceLT,Int.reduceLE,Int.reduceNeg,Int.reduceToNat,reduceCtorEq,Nat.reduceBEq,Nat.reduceBNe,Qk,Qe,Value.cells,am,mm,keep, aint, ha, bda]; refine hK_ _ _ ?_; clear hK_ K_; repeat first | refine QL ?_ | refine QM ?_) | (refine awp_skip ?_; repeat first | refine QL ?_ | refine QM ?_)))
      first | refine awp_ret ?_ | skip
      show ∃ v, aresults Tryd.prog Tryd.f39 _ _ = some v ∧ _
      rw [aresults_1 (r := .tmp 2) (by kernel_rfl)]
      simp -implicitDefEqProofs (disch := (try simp only [sl]); try omega) only [aresult, Option.some.injEq, exists_eq_left', sm,Qj,Qi,Qq,QC,Qz,bd,QF,look,aput,QB,Qf,QA,ty,↓reduceIte,Nat.reduceEqDiff,Nat.reduceAdd,Nat.reduceSub,Nat.reduceMul,Int.reduceLT,Int.reduceLE,Int.reduceNeg,Int.reduceToNat,reduceCtorEq,Nat.reduceBEq,Nat.reduceBNe,Qk,Qe,Value.cells,am,mm,keep, aint, ha]
      exact ⟨.inr ⟨H.length + 1, rfl, q2, by omega⟩, x2⟩
theorem clear_at {P : Program} {H : AH} {t bytes g k m e : Nat} {C : List Value} (he : elemT P t = some (2, bytes)) (hq : H[g]? = some (.own C)) (hk : k * 2 + m * 2 = C.length) (hm : 0 < m) :
    ∃ C', aclear P H t (.slice (some ⟨g, k * 2, none⟩) m e) = some (H.set g (.own C')) ∧ C'.take (k * 2) = C.take (k * 2) ∧ C'.length = C.length := by
  refine ⟨ovr C (k * 2) (List.replicate (m * 2) undef), ?_, ?_, ovr_length (by rw [List.length_replicate]; omega)⟩
  · unfold aclear
    simp only [he, hq]
    rw [if_neg (by omega), if_pos (by rw [List.length_replicate]; omega)]
  · rw [ovr_mid _ _ _ (by rw [List.length_replicate]; omega), List.append_assoc, List.take_append_of_le_length (by rw [List.length_take]; omega), List.take_take, Nat.min_self]
end Go.Proofs.YtfdpmffcdafmgaaDoor
