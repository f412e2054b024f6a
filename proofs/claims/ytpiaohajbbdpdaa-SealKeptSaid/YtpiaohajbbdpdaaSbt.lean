/- seal's book: Texts, Len. -/
import Derived.Test.YtpiaohajbbdpdaaSbk
namespace Go.Proofs.Ytpiaohajbbdpdaa
open Go Go.RowKit
--hide
set_option linter.unusedSimpArgs false
set_option linter.unusedVariables false
set_option maxRecDepth 4000
theorem blen_calls (gb : Nat) (sv : Value) (ps : List (Value × List UInt8)) (H : AH) (hB : BkS H gb sv ps) :
    ACalls Try.prog 21 #[.pointer (some ⟨gb, 0, none⟩)] H fun r H' => r = .int .i64 (ps.length : Int) ∧ H' = H := by
  obtain ⟨hg, ho, ht⟩ := hB
  have hc := AH.cells_own hg
  have hgl := got_lt hg
  have lsv := alen_sl (P := Try.prog) (T := 44) (by simp only [ty]) ho.sl
  rw [List.length_map] at lsv
  refine acalls_of_body Try.func21 rfl Try.ntmps21 (by simp) ?_
  simp only [argsT, Nat.reduceAdd]
  iterate 2 ((repeat first | refine Qo ?_ | refine Qn ?_); (first | (refine QK (by kernel_rfl) ?_; intro K_ hK_; simp -implicitDefEqProofs (disch := (try simp only [sl]); try omega) only [sm,QJ,Qj,Qi,Qq,QC,bd,look,aput,QI,abin,anil,ty,↓reduceIte,Nat.reduceEqDiff,Nat.reduceAdd,Nat.reduceSub,Nat.reduceMul,Int.reduceLT,Int.reduceLE,Int.reduceNeg,Int.reduceToNat,reduceCtorEq,Nat.reduceBEq,Nat.reduceBNe,Qk,Qe,Value.cells,am,mm,keep, hg, hc, hgl, lsv]; refine hK_ _ _ ?_; clear hK_ K_; repeat first | refine QL ?_ | refine QM ?_)))
  repeat first | refine Qo ?_ | refine Qn ?_
  refine awp_if false rfl (by simp only [aeval_tmp, look, ↓reduceIte, Nat.reduceEqDiff]; try rfl) (fun h => absurd h (by decide)) (fun _ => ?_)
  iterate 2 ((repeat first | refine Qo ?_ | refine Qn ?_); (first | (refine QK (by kernel_rfl) ?_; intro K_ hK_; simp -implicitDefEqProofs (disch := (try simp only [sl]); try omega) only [sm,QJ,Qj,Qi,Qq,QC,Qz,bd,QF,look,aput,Qc,QA,Qd,ty,↓reduceIte,Nat.reduceEqDiff,Nat.reduceAdd,Nat.reduceSub,Nat.reduceMul,Int.reduceLT,Int.reduceLE,Int.reduceNeg,Int.reduceToNat,reduceCtorEq,Nat.reduceBEq,Nat.reduceBNe,Qk,Qe,Value.cells,am,mm,keep, hg, hc, hgl, lsv]; refine hK_ _ _ ?_; clear hK_ K_; repeat first | refine QL ?_ | refine QM ?_) | (refine awp_skip ?_; repeat first | refine QL ?_ | refine QM ?_)))
  first | refine awp_ret ?_ | skip
  show ∃ v, aresults Try.prog Try.f21 _ _ = some v ∧ _
  rw [aresults_1 (r := .tmp 2) (by kernel_rfl)]
  simp -implicitDefEqProofs (disch := (try simp only [sl]); try omega) only [aresult, Option.some.injEq, exists_eq_left', sm,Qj,Qi,Qq,QC,Qz,bd,QF,look,aput,QB,Qf,QA,ty,↓reduceIte,Nat.reduceEqDiff,Nat.reduceAdd,Nat.reduceSub,Nat.reduceMul,Int.reduceLT,Int.reduceLE,Int.reduceNeg,Int.reduceToNat,reduceCtorEq,Nat.reduceBEq,Nat.reduceBNe,Qk,Qe,Value.cells,am,mm,keep, hg, hc, hgl, lsv]
/-- A row of rows of bytes, none of them in the row's own block. -/
def Row (b : Nat) (H : AH) (s : Value) (ls : List (Value × List UInt8)) : Prop := OS b H s (ls.map (·.1)) ∧ ∀ p ∈ ls, SL H p.1 (p.2.map U8) ∧ ∀ q o n e o' n' e', s = .slice (some ⟨q, o, none⟩) n e → p.1 ≠ .slice (some ⟨q, o', none⟩) n' e'
theorem Row.step {b : Nat} {H1 H2 : AH} {s w : Value} {ls : List (Value × List UInt8)} {bs : List UInt8} (h : Row b H1 s ls) (e2 : Ext H1 H2) (o2 : OS H1.length H2 w (bs.map U8)) (hb : b ≤ H1.length) (hl : ls.length ≤ 1000) (h2 : ∀ p ∈ ls, 2 < p.2.length) :
    ∃ s' H3, aappend Try.prog (H2 ++ [ABlk.own [w]]) 44 44 s (.slice (some ⟨H2.length, 0, none⟩) 1 1) = some (s', H3) ∧ Row b H3 s' (ls ++ [(w, bs)]) ∧ (∀ E : AH, E.length ≤ b → Ext E H1 → Ext E H3) := by
  obtain ⟨ho, ht⟩ := h
  have hln := e2.length
  have hws : ∃ p n e, w = .slice p n e := o2.sl.isSlice
  have hcv : cellv w = true := by obtain ⟨p, n, e, rfl⟩ := hws; rfl
  have hw : SL (H2 ++ [ABlk.own [w]]) (.slice (some ⟨H2.length, 0, none⟩) 1 1) [w] := (OS.new (b := 0) (Nat.zero_le _) (n := 1) (vs := [w]) rfl).sl
  have x2 : Ext H1 (H2 ++ [ABlk.own [w]]) := Ext.trans e2 (Ext.push _ _)
  obtain ⟨s', H3, ha, o3, b3, fr⟩ := OS.appF (P := Try.prog) (t := 44) (tx := 44) (bytes := 24) (by simp only [ty]) (by simp only [ty]) (ho.mono x2) hw (by simp only [List.all_cons, hcv, List.all_nil]; rfl) (by simp only [List.length_map, List.length_singleton]; omega) (by decide) (by rw [List.length_append]; omega) (by simp)
  have B3 : ∀ g, But2 g s (H2 ++ [ABlk.own [w]]) H3 := fun g p y _ hs h => b3 p y hs h
  have hsl : ∀ q o n e, s = .slice (some ⟨q, o, none⟩) n e → q < H1.length ∧ b ≤ q := fun q o n e k => ⟨got_lt (ho.cells k).2.1, (ho.cells k).2.2⟩
  have hwl : ∀ q o n e, w = .slice (some ⟨q, o, none⟩) n e → H1.length ≤ q ∧ q < H2.length := fun q o n e k => ⟨(o2.cells k).2.2, got_lt (o2.cells k).2.1⟩
  have hlen : (H2 ++ [ABlk.own [w]]).length = H2.length + 1 := by rw [List.length_append]; rfl
  refine ⟨s', H3, ha, ⟨by rw [List.map_append]; exact o3, ?_⟩, fun E hE hx p y hy => b3 p y (fun o n e k => by have := hsl _ _ _ _ k; have := got_lt hy; omega) (x2 _ _ (hx _ _ hy))⟩
  intro p hp
  rcases List.mem_append.1 hp with hp | hp
  · obtain ⟨h3, h4⟩ := ht p hp
    have h5 := h2 p hp
    have hpl : ∀ q o n e, p.1 = .slice (some ⟨q, o, none⟩) n e → q < H1.length := fun q o n e k => by
      rcases h3.blk with h6 | h6
      · have := congrArg List.length h6
        simp only [List.length_map, List.length_nil] at this
        omega
      · exact h6 _ _ _ _ k
    refine ⟨(h3.mono x2).but2 (B3 (H1.length)) (fun o n e k => by have := hpl _ _ _ _ k; omega) h4, fun q o n e o' n' e' k k' => ?_⟩
    have := fr _ _ _ _ k
    have := hpl _ _ _ _ k'
    omega
  · simp only [List.mem_singleton] at hp
    subst hp
    refine ⟨(o2.sl.mono (Ext.push _ _)).but2 (B3 H2.length) (fun o n e k => by have := hwl _ _ _ _ k; omega) (fun q o n e o' n' e' k k' => by have := hsl _ _ _ _ k; have := hwl _ _ _ _ k'; omega), fun q o n e o' n' e' k k' => ?_⟩
    have := fr _ _ _ _ k
    have := hwl _ _ _ _ k'
    omega
set_option maxHeartbeats 8000000 in
theorem btexts_calls (gb : Nat) (sv : Value) (ps : List (Value × List UInt8)) (H : AH) (hB : BkS H gb sv ps) (hn : ps.length ≤ 1000) (hps : ∀ p ∈ ps, 2 < p.2.length ∧ p.2.length ≤ 1099511627) :
    ACalls Try.prog 20 #[.pointer (some ⟨gb, 0, none⟩)] H fun r H' => (∃ ls, Row H.length H' r ls ∧ ls.map (·.2) = ps.map (·.2)) ∧ Ext H H' := by
  obtain ⟨hg, ho, ht⟩ := hB
  have hc := AH.cells_own hg
  have hgl := got_lt hg
  have lsv := alen_sl (P := Try.prog) (T := 44) (by simp only [ty]) ho.sl
  rw [List.length_map] at lsv
  refine acalls_of_body Try.func20 rfl Try.ntmps20 (by simp) ?_
  simp only [argsT, Nat.reduceAdd]
  iterate 2 ((repeat first | refine Qo ?_ | refine Qn ?_); (first | (refine QK (by kernel_rfl) ?_; intro K_ hK_; simp -implicitDefEqProofs (disch := (try simp only [sl]); try omega) only [sm,QJ,Qj,Qi,Qq,QC,bd,look,aput,QI,abin,anil,ty,↓reduceIte,Nat.reduceEqDiff,Nat.reduceAdd,Nat.reduceSub,Nat.reduceMul,Int.reduceLT,Int.reduceLE,Int.reduceNeg,Int.reduceToNat,reduceCtorEq,Nat.reduceBEq,Nat.reduceBNe,Qk,Qe,Value.cells,am,mm,keep, hg, hc, hgl, lsv, bd]; refine hK_ _ _ ?_; clear hK_ K_; repeat first | refine QL ?_ | refine QM ?_)))
  repeat first | refine Qo ?_ | refine Qn ?_
  refine awp_if false rfl (by simp only [aeval_tmp, look, ↓reduceIte, Nat.reduceEqDiff]; try rfl) (fun h => absurd h (by decide)) (fun _ => ?_)
  iterate 3 ((repeat first | refine Qo ?_ | refine Qn ?_); (first | (refine QK (by kernel_rfl) ?_; intro K_ hK_; simp -implicitDefEqProofs (disch := (try simp only [sl]); try omega) only [sm,QJ,Qj,Qi,Qq,QC,Qz,bd,QF,look,aput,Qc,QA,Qd,ty,↓reduceIte,Nat.reduceEqDiff,Nat.reduceAdd,Nat.reduceSub,Nat.reduceMul,Int.reduceLT,Int.reduceLE,Int.reduceNeg,Int.reduceToNat,reduceCtorEq,Nat.reduceBEq,Nat.reduceBNe,Qk,Qe,Value.cells,am,mm,keep, hg, hc, hgl, lsv, bd]; refine hK_ _ _ ?_; clear hK_ K_; repeat first | refine QL ?_ | refine QM ?_) | (refine awp_skip ?_; repeat first | refine QL ?_ | refine QM ?_)))
  repeat first | refine Qo ?_ | refine Qn ?_
  refine awp_forK [11, 12] (fun x : Nat × Value × List (Value × List UInt8) × AH => [(13, I64 x.1), (3, x.2.1)]) (fun x : Nat × Value × List (Value × List UInt8) × AH => x.2.2.2) (fun x : Nat × Value × List (Value × List UInt8) × AH => x.1 ≤ ps.length ∧ Row H.length x.2.2.2 x.2.1 x.2.2.1 ∧ x.2.2.1.map (·.2) = (ps.take x.1).map (·.2) ∧ Ext H x.2.2.2) (fun x : Nat × Value × List (Value × List UInt8) × AH => ps.length - x.1) ((0, .slice none 0 0, [], H)) (⟨Nat.zero_le _, ⟨OS.nil _ _, fun p hp => by simp at hp⟩, rfl, Ext.refl _⟩) (by repeat first | exact Forgets.nil | refine Forgets.cons (by first | (simp only [look, ↓reduceIte, Nat.reduceEqDiff]; done) | (simp only [look, ↓reduceIte, Nat.reduceEqDiff]; rfl) | simp [look]) ?_) rfl ?_
  rintro ⟨i, s, ls, H1⟩ ⟨hi, hr, hm, x1⟩
  simp only [] at hi hr hm x1 ⊢
  by_cases hlt : i < ps.length
  · obtain ⟨gs, os, es, cs, rfl, hcs, hgs, hls, hks, hks0⟩ := ho.sl.at (by rw [List.length_map]; omega)
    rw [List.length_map] at hls hks
    have hki := hks i hlt
    rw [List.getElem?_map, List.getElem?_eq_getElem hlt, Option.map_some] at hki
    have hcs1 := x1.cells hcs
    have hti := ht _ (List.getElem_mem hlt)
    have hpi := hps _ (List.getElem_mem hlt)
    have hlp : ls.length = i := by have := congrArg List.length hm; simpa [Nat.min_eq_left hi] using this
    have hlm : ∀ p ∈ ls, 2 < p.2.length := fun p hp => by
      have h1 : p.2 ∈ ls.map (·.2) := List.mem_map_of_mem hp
      rw [hm] at h1
      obtain ⟨q, hq, hq2⟩ := List.mem_map.1 h1
      rw [← hq2]
      exact (hps q (List.mem_of_mem_take hq)).1
    generalize hpe : ps[i] = pi at *
    iterate 1 ((repeat first | refine Qo ?_ | refine Qn ?_); (first | (refine QK (by kernel_rfl) ?_; intro K_ hK_; simp -implicitDefEqProofs (disch := (try simp only [sl]); try omega) only [sm,QJ,Qj,Qi,Qq,QC,bd,look,aput,QI,abin,anil,ty,↓reduceIte,Nat.reduceEqDiff,Nat.reduceAdd,Nat.reduceSub,Nat.reduceMul,Int.reduceLT,Int.reduceLE,Int.reduceNeg,Int.reduceToNat,reduceCtorEq,Nat.reduceBEq,Nat.reduceBNe,Qk,Qe,Value.cells,am,mm,keep, hg, hc, hgl, lsv, bd, hlt]; refine hK_ _ _ ?_; clear hK_ K_; repeat first | refine QL ?_ | refine QM ?_)))
    repeat first | refine Qo ?_ | refine Qn ?_
    refine awp_if true rfl (by simp only [aeval_tmp, look, ↓reduceIte, Nat.reduceEqDiff]; try rfl) (fun _ => ?_) (fun h => absurd h (by decide))
    iterate 2 ((repeat first | refine Qo ?_ | refine Qn ?_); (first | (refine QK (by kernel_rfl) ?_; intro K_ hK_; simp -implicitDefEqProofs (disch := (try simp only [sl]); try omega) only [sm,QJ,Qj,Qi,Qq,QC,Qz,bd,QF,look,aput,Qm,Qb,QA,ty,↓reduceIte,Nat.reduceEqDiff,Nat.reduceAdd,Nat.reduceSub,Nat.reduceMul,Int.reduceLT,Int.reduceLE,Int.reduceNeg,Int.reduceToNat,reduceCtorEq,Nat.reduceBEq,Nat.reduceBNe,Qk,Qe,Value.cells,am,mm,keep, hg, hc, hgl, lsv, bd, hcs1, hki, hlt, List.length_map]; refine hK_ _ _ ?_; clear hK_ K_; repeat first | refine QL ?_ | refine QM ?_) | (refine awp_skip ?_; repeat first | refine QL ?_ | refine QM ?_)))
    (repeat first | refine Qo ?_ | refine Qn ?_); refine QK (by kernel_rfl) ?_; intro K_ hK_; simp -implicitDefEqProofs (disch := (try simp only [sl]); try omega) only [sm,QJ,Qj,Qi,Qq,QC,bd,look,aput,Qm,ty,↓reduceIte,Nat.reduceEqDiff,Nat.reduceAdd,Nat.reduceSub,Nat.reduceMul,Int.reduceLT,Int.reduceLE,Int.reduceNeg,Int.reduceToNat,reduceCtorEq,Nat.reduceBEq,Nat.reduceBNe,Qk,Qe,Value.cells,am,mm,keep, hg, hc, hgl, lsv, bd, hcs1, hki, hlt, List.length_map]
    refine ACalls.mono (clone_calls pi.1 pi.2 H1 (hti.mono x1) (by omega)) ?_
    rintro w H2 ⟨o2, e2⟩
    obtain ⟨s', H3, ha3, hr3, hx3⟩ := hr.step e2 o2 x1.length (by omega) hlm
    obtain ⟨pw, nw, ew, rfl⟩ := o2.sl.isSlice
    try simp -implicitDefEqProofs (disch := (try simp only [sl]); try omega) only [sm,QJ,Qj,Qi,Qq,QC,bd,look,aput,Qm,ty,↓reduceIte,Nat.reduceEqDiff,Nat.reduceAdd,Nat.reduceSub,Nat.reduceMul,Int.reduceLT,Int.reduceLE,Int.reduceNeg,Int.reduceToNat,reduceCtorEq,Nat.reduceBEq,Nat.reduceBNe,Qk,Qe,Value.cells,am,mm,keep, hg, hc, hgl, lsv, bd, ha3]
    try (refine hK_ _ _ ?_; clear hK_ K_; repeat first | refine QL ?_ | refine QM ?_)
    iterate 1 ((repeat first | refine Qo ?_ | refine Qn ?_); (first | (refine QK (by kernel_rfl) ?_; intro K_ hK_; simp -implicitDefEqProofs (disch := (try simp only [sl]); try omega) only [sm,QJ,Qj,Qi,Qq,QC,bd,look,aput,QI,abin,anil,ty,↓reduceIte,Nat.reduceEqDiff,Nat.reduceAdd,Nat.reduceSub,Nat.reduceMul,Int.reduceLT,Int.reduceLE,Int.reduceNeg,Int.reduceToNat,reduceCtorEq,Nat.reduceBEq,Nat.reduceBNe,Qk,Qe,Value.cells,am,mm,keep, hg, hc, hgl, lsv, bd]; refine hK_ _ _ ?_; clear hK_ K_; repeat first | refine QL ?_ | refine QM ?_)))
    refine ⟨(i + 1, s', ls ++ [(.slice pw nw ew, pi.2)], H3), ⟨by simp only []; omega, hr3, by simp only [List.map_append, hm, List.map_cons, List.map_nil]; rw [List.take_add_one, List.getElem?_eq_getElem hlt, hpe, List.map_append]; rfl, hx3 H (Nat.le_refl _) x1⟩, (by repeat first | exact Forgets.nil | refine Forgets.cons (by first | (simp only [look, ↓reduceIte, Nat.reduceEqDiff]; done) | (simp only [look, ↓reduceIte, Nat.reduceEqDiff]; rfl) | simp [look]) ?_), ?_⟩
    first | omega | exact ⟨rfl, by omega⟩ | exact ⟨rfl, by simp only []; omega⟩ | (simp only []; omega)
  obtain rfl : i = ps.length := by omega
  rw [List.take_of_length_le (Nat.le_refl _)] at hm
  iterate 1 ((repeat first | refine Qo ?_ | refine Qn ?_); (first | (refine QK (by kernel_rfl) ?_; intro K_ hK_; simp -implicitDefEqProofs (disch := (try simp only [sl]); try omega) only [sm,QJ,Qj,Qi,Qq,QC,bd,look,aput,QI,abin,anil,ty,↓reduceIte,Nat.reduceEqDiff,Nat.reduceAdd,Nat.reduceSub,Nat.reduceMul,Int.reduceLT,Int.reduceLE,Int.reduceNeg,Int.reduceToNat,reduceCtorEq,Nat.reduceBEq,Nat.reduceBNe,Qk,Qe,Value.cells,am,mm,keep, hg, hc, hgl, lsv, bd, hlt]; refine hK_ _ _ ?_; clear hK_ K_; repeat first | refine QL ?_ | refine QM ?_)))
  repeat first | refine Qo ?_ | refine Qn ?_
  refine awp_if false rfl (by simp only [aeval_tmp, look, ↓reduceIte, Nat.reduceEqDiff]; try rfl) (fun h => absurd h (by decide)) (fun _ => ?_)
  iterate 2 ((repeat first | refine Qo ?_ | refine Qn ?_); (first | (refine QK (by kernel_rfl) ?_; intro K_ hK_; simp -implicitDefEqProofs (disch := (try simp only [sl]); try omega) only [sm,QJ,Qj,Qi,Qq,QC,bd,look,aput,ty,↓reduceIte,Nat.reduceEqDiff,Nat.reduceAdd,Nat.reduceSub,Nat.reduceMul,Int.reduceLT,Int.reduceLE,Int.reduceNeg,Int.reduceToNat,reduceCtorEq,Nat.reduceBEq,Nat.reduceBNe,Qk,Qe,Value.cells,am,mm,keep, hg, hc, hgl, lsv, bd]; refine hK_ _ _ ?_; clear hK_ K_; repeat first | refine QL ?_ | refine QM ?_) | (refine awp_exit ?_; (repeat first | refine aThen_exit ?_ | refine aIn_out rfl ?_); refine aIn_here ?_; repeat first | refine QL ?_ | refine QM ?_)))
  first | refine awp_ret ?_ | skip
  show ∃ v, aresults Try.prog Try.f20 _ _ = some v ∧ _
  rw [aresults_1 (r := .tmp 2) (by kernel_rfl)]
  simp -implicitDefEqProofs (disch := (try simp only [sl]); try omega) only [aresult, Option.some.injEq, exists_eq_left', sm,Qj,Qi,Qq,QC,Qz,bd,QF,look,aput,QB,Qf,QA,ty,↓reduceIte,Nat.reduceEqDiff,Nat.reduceAdd,Nat.reduceSub,Nat.reduceMul,Int.reduceLT,Int.reduceLE,Int.reduceNeg,Int.reduceToNat,reduceCtorEq,Nat.reduceBEq,Nat.reduceBNe,Qk,Qe,Value.cells,am,mm,keep, hg, hc, hgl, lsv, bd]
  exact ⟨⟨ls, hr, hm⟩, x1⟩
end Go.Proofs.Ytpiaohajbbdpdaa
