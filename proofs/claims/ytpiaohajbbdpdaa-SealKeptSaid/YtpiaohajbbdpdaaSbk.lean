/- seal's book: Digest with a book, Texts, Len. -/
import Derived.Test.YtpiaohajbbdpdaaSl2
import Derived.Test.YtpiaohajbbdpdaaPk2
namespace Go.Proofs.Ytpiaohajbbdpdaa
open Go Go.RowKit
--hide
set_option linter.unusedSimpArgs false
set_option linter.unusedVariables false
set_option maxRecDepth 4000
/-- A book's block, and its texts. -/
def BkS (H : AH) (gb : Nat) (sv : Value) (ps : List (Value × List UInt8)) : Prop := H[gb]? = some (.own [sv]) ∧ OS (gb + 1) H sv (ps.map (·.1)) ∧ ∀ p ∈ ps, SL H p.1 (p.2.map U8)
/-- All blocks but one, and but a slice's own, stay. -/
def But2 (gb : Nat) (sv : Value) (H H' : AH) : Prop := ∀ p y, p ≠ gb → (∀ o n e, sv ≠ .slice (some ⟨p, o, none⟩) n e) → H[p]? = some y → H'[p]? = some y
theorem SL.but2 {gb : Nat} {sv : Value} {H H' : AH} {v : Value} {vs : List Value} (h : SL H v vs) (b : But2 gb sv H H') (h1 : ∀ o n e, v ≠ .slice (some ⟨gb, o, none⟩) n e) (h2 : ∀ q o n e o' n' e', sv = .slice (some ⟨q, o, none⟩) n e → v ≠ .slice (some ⟨q, o', none⟩) n' e') : SL H' v vs := by
  rcases h with h | ⟨q, o, e, rfl, h⟩
  · exact .inl h
  refine .inr ⟨q, o, e, rfl, ?_⟩
  rcases h with h | ⟨cs, hc, h3⟩
  · exact .inl h
  refine .inr ⟨cs, ?_, h3⟩
  have hq : q ≠ gb := fun k => h1 _ _ _ (by rw [k])
  have hs : ∀ o' n' e', sv ≠ .slice (some ⟨q, o', none⟩) n' e' := fun o' n' e' k => h2 _ _ _ _ _ _ _ k rfl
  rcases AH.cells_cases hc with k | k
  · exact AH.cells_own (b _ _ hq hs k)
  · exact AH.cells_ro (b _ _ hq hs k)
theorem OS.cells {b : Nat} {H : AH} {v : Value} {vs : List Value} (h : OS b H v vs) {q o n e : Nat} (hv : v = .slice (some ⟨q, o, none⟩) n e) : H.cells q = some vs ∧ H[q]? = some (.own vs) ∧ b ≤ q := by
  rcases h with ⟨h, _⟩ | ⟨g, h, h1, h2⟩
  · rw [h] at hv; cases hv
  · rw [h] at hv; cases hv; exact ⟨AH.cells_own h1, h1, h2⟩
theorem OS.shape2 {b : Nat} {H : AH} {v : Value} {vs : List Value} (h : OS b H v vs) : ∃ p n e, v = .slice p n e := by
  rcases h with ⟨h, _⟩ | ⟨g, h, _⟩
  · exact ⟨_, _, _, h⟩
  · exact ⟨_, _, _, h⟩
theorem OS.but {b q : Nat} {H H' : AH} {v : Value} {vs : List Value} (h : OS b H v vs) (hq : q < b) (e : But q H H') : OS b H' v vs := by
  rcases h with h | ⟨g, h1, h2, h3⟩
  · exact .inl h
  · exact .inr ⟨g, h1, e _ _ (by omega) h2, h3⟩
theorem OS.butn {b q : Nat} {H H' : AH} {v : Value} {vs : List Value} (h : OS b H v vs) (hq : ∀ o n e, v ≠ .slice (some ⟨q, o, none⟩) n e) (e : But q H H') : OS b H' v vs := by
  rcases h with h | ⟨g, h1, h2, h3⟩
  · exact .inl h
  · exact .inr ⟨g, h1, e _ _ (fun k => hq _ _ _ (by rw [h1, k])) h2, h3⟩
/-- As OS.appK; and the slice is a new one. -/
theorem OS.appF {P : Program} {H : AH} {t tx b : Nat} {bytes : Nat} {s x : Value} {xs ys : List Value} (he : elemT P t = some (1, bytes)) (ht : sliceT P tx = true) (hs : OS b H s xs) (hx : SL H x ys) (hv : ys.all cellv = true) (hb : (xs.length + ys.length) * bytes ≤ 140737488355328) (hp : 0 < bytes) (hbl : b ≤ H.length) (hl : 0 < ys.length) :
    ∃ s' H', aappend P H t tx s x = some (s', H') ∧ OS b H' s' (xs ++ ys) ∧ (∀ p y, (∀ o n e, s ≠ .slice (some ⟨p, o, none⟩) n e) → H[p]? = some y → H'[p]? = some y) ∧ ∀ q o n e, s' = .slice (some ⟨q, o, none⟩) n e → H.length ≤ q := by
  rcases hs with ⟨rfl, rfl⟩ | ⟨g, rfl, hg, hbg⟩
  · refine ⟨_, _, app_nil he ht hx hv hl (by simpa using hb) hp, OS.new hbl rfl, fun p y _ h => Ext.push _ _ _ _ h, fun q o n e h => by cases h; exact Nat.le_refl _⟩
  · refine ⟨_, _, app_own he ht hx hv hl hg rfl hb hp, .inr ⟨H.length, by rw [List.length_append], ?_, hbl⟩, fun p y hp' h => Ext.push _ _ _ _ ?_, fun q o n e h => by cases h; exact Nat.le_refl _⟩
    · have : H.length = (H.set g ABlk.dead).length := by rw [List.length_set]
      rw [this]; exact gpush _ _
    · rw [List.getElem?_set_ne (fun e => hp' 0 xs.length 1 (by rw [e]))]; exact h
set_option maxHeartbeats 8000000 in
theorem bdigest_calls (gb : Nat) (sv : Value) (ps : List (Value × List UInt8)) (v : Value) (b : List UInt8) (H : AH) (hB : BkS H gb sv ps) (hn : ps.length ≤ 1) (hv : SL H v (b.map U8)) (hb : 2 < b.length) (hl : b.length ≤ 1099511627) (hps : ∀ p ∈ ps, 2 < p.2.length) :
    ACalls Try.prog 33 #[.pointer (some ⟨gb, 0, none⟩), v] H fun r H' => r = .agg ((digest b).map U8).toArray ∧ (∃ w sv', BkS H' gb sv' (ps ++ [(w, b)]) ∧ ∀ q o n e, sv' = .slice (some ⟨q, o, none⟩) n e → H.length ≤ q) ∧ But2 gb sv H H' := by
  obtain ⟨p, n, e, rfl⟩ := hv.isSlice
  have hz32 := zb_length 32
  have hdl := digest_length b
  have hov : ovr ((zb 32).map U8) 0 ((digest b).map U8) = (digest b).map U8 := ovr_all _ _ (by rw [List.length_map, List.length_map, hdl, hz32])
  obtain ⟨hg, ho, ht⟩ := hB
  have hgl := got_lt hg
  have lsv := alen_sl (P := Try.prog) (T := 44) (by simp only [ty]) ho.sl
  rw [List.length_map] at lsv
  have hlt : ps.length < 100000 := by omega
  have fo_ : True := trivial
  have N_ := Now.start H
  have f_ := N_.has
  simp only [Has] at f_
  refine acalls_of_body Try.func33 rfl Try.ntmps33 (by simp) ?_
  simp only [argsT, Nat.reduceAdd]
  iterate 1 ((repeat first | refine Qo ?_ | refine Qn ?_); (first | (refine QK (by kernel_rfl) ?_; intro K_ hK_; simp -implicitDefEqProofs (disch := (try simp only [sl]); try omega) only [sm,QJ,Qj,Qi,Qq,QC,bd,look,aput,ty,↓reduceIte,Nat.reduceEqDiff,Nat.reduceAdd,Nat.reduceSub,Nat.reduceMul,Int.reduceLT,Int.reduceLE,Int.reduceNeg,Int.reduceToNat,reduceCtorEq,Nat.reduceBEq,Nat.reduceBNe,Qk,Qe,Value.cells,am,mm,keep, f_, fo_, QO, hz32, hdl, bd, lsv, hlt]; refine hK_ _ _ ?_; clear hK_ K_; repeat first | refine QL ?_ | refine QM ?_)))
  first | refine AWp.snap8 N_ ?_ | refine AWp.snap7 N_ ?_ | refine AWp.snap6 N_ ?_ | refine AWp.snap5 N_ ?_ | refine AWp.snap4 N_ ?_ | refine AWp.snap3 N_ ?_ | refine AWp.snap2 N_ ?_ | refine AWp.snap1 N_ ?_
  clear fo_; have fo_ := f_; clear f_ N_; intro H1 xH1 lH1 N_
  have f_ := N_.has
  simp only [Has] at f_
  have hg1 := xH1 _ _ hg
  have hc1 := AH.cells_own hg1
  have hgl1 := got_lt hg1
  iterate 1 ((repeat first | refine Qo ?_ | refine Qn ?_); (first | (refine QK (by kernel_rfl) ?_; intro K_ hK_; simp -implicitDefEqProofs (disch := (try simp only [sl]); try omega) only [sm,QJ,Qj,Qi,Qq,QC,Qz,bd,QF,look,aput,QI,abin,anil,Qc,QA,Qd,ty,↓reduceIte,Nat.reduceEqDiff,Nat.reduceAdd,Nat.reduceSub,Nat.reduceMul,Int.reduceLT,Int.reduceLE,Int.reduceNeg,Int.reduceToNat,reduceCtorEq,Nat.reduceBEq,Nat.reduceBNe,Qk,Qe,Value.cells,am,mm,keep, f_, fo_, QO, hz32, hdl, bd, lsv, hlt, hg1, hc1, hgl1]; refine hK_ _ _ ?_; clear hK_ K_; repeat first | refine QL ?_ | refine QM ?_)))
  repeat first | refine Qo ?_ | refine Qn ?_
  refine awp_if true rfl (by simp only [aeval_tmp, look, ↓reduceIte, Nat.reduceEqDiff]; try rfl) (fun _ => ?_) (fun h => absurd h (by decide))
  (repeat first | refine Qo ?_ | refine Qn ?_); refine awp_region_drawK (id := 2) [(0, []), (1, []), (2, []), (3, []), (4, []), (5, []), (6, [4]), (7, []), (8, []), (9, []), (10, []), (11, [])] mixed (by kernel_rfl) ?_; intro K_ hK_; simp -implicitDefEqProofs (disch := (try simp only [sl]); try omega) only [sm,aSel,Qu,Qv,Qw,Qx,Qy,Qj,Qi,Qq,QC,Qz,bd,QF,look,aput,Qm,Qc,QA,Qd,ty,↓reduceIte,Nat.reduceEqDiff,Nat.reduceAdd,Nat.reduceSub,Nat.reduceMul,Int.reduceLT,Int.reduceLE,Int.reduceNeg,Int.reduceToNat,reduceCtorEq,Nat.reduceBEq,Nat.reduceBNe,Qk,Qe,Value.cells,am,mm,keep, f_, fo_, QO, hz32, hdl, bd, lsv, hlt, hg1, hc1, hgl1]
  refine ACalls.mono (clone_calls _ b H1 (hv.mono xH1) (by omega)) ?_
  rintro w H2 ⟨o2, e2⟩
  obtain ⟨pw, nw, ew, rfl⟩ := o2.sl.isSlice
  have hg2 := e2 _ _ hg1
  have hc2 := AH.cells_own hg2
  have x2 : Ext H (H2 ++ [ABlk.own [Value.slice pw nw ew]]) := xH1.trans (e2.trans (Ext.push _ _))
  have hw : SL (H2 ++ [ABlk.own [Value.slice pw nw ew]]) (.slice (some ⟨H2.length, 0, none⟩) 1 1) [.slice pw nw ew] := (OS.new (b := 0) (Nat.zero_le _) (n := 1) (vs := [.slice pw nw ew]) rfl).sl
  obtain ⟨s3, H3, ha3, o3, b3, fr3⟩ := OS.appF (P := Try.prog) (t := 44) (tx := 44) (bytes := 24) (by simp only [ty]) (by simp only [ty]) (ho.mono x2) hw rfl (by simp only [List.length_map, List.length_singleton]; omega) (by decide) (by rw [List.length_append]; have := x2.length; have := e2.length; omega) (by simp)
  have hsg : ∀ o n e, sv ≠ .slice (some ⟨gb, o, none⟩) n e := fun o n e h => by have := (ho.cells h).2.2; omega
  have hsz : ∀ q, H.length ≤ q → ∀ o n e, sv ≠ .slice (some ⟨q, o, none⟩) n e := fun q hq o n e h => by have := got_lt (ho.cells h).2.1; omega
  have hg3 := b3 gb _ hsg (Ext.push _ _ _ _ hg2)
  have hz3 := b3 H.length _ (hsz _ (Nat.le_refl _)) (Ext.push _ _ _ _ (e2 _ _ f_.1.2.1))
  have B3 : But2 gb sv (H2 ++ [ABlk.own [Value.slice pw nw ew]]) H3 := fun p y _ hs h => b3 p y hs h
  have hwg : ∀ q o n' e', Value.slice pw nw ew = .slice (some ⟨q, o, none⟩) n' e' → H1.length ≤ q := fun q o n' e' h => (o2.cells h).2.2
  have hfar : ∀ (v : Value) (b : List UInt8), SL H v (b.map U8) → 2 < b.length → (∀ o n e, v ≠ .slice (some ⟨gb, o, none⟩) n e) ∧ ∀ q o n e o' n' e', sv = .slice (some ⟨q, o, none⟩) n e → v ≠ .slice (some ⟨q, o', none⟩) n' e' := fun v b h hb => by
    refine ⟨h.far (AH.cells_own hg) (by rw [List.length_map]; simp only [List.length_singleton]; omega), fun q o n e o' n' e' hs => h.far (ho.cells hs).1 (by rw [List.length_map, List.length_map]; omega) o' n' e'⟩
  have keep3 : ∀ (v : Value) (b : List UInt8), SL H v (b.map U8) → 2 < b.length → SL H3 v (b.map U8) := fun v b h hb => (h.mono x2).but2 B3 (hfar v b h hb).1 (hfar v b h hb).2
  have hw3 : SL H3 (.slice pw nw ew) (b.map U8) := (o2.sl.mono (Ext.push _ _)).but2 B3 (fun o n' e' h => by have := hwg _ _ _ _ h; omega) (fun q o n' e' o' n'' e'' hs h => by have := hwg _ _ _ _ h; have := got_lt (ho.cells hs).2.1; omega)
  have hv3 : SL H3 (.slice p n e) (b.map U8) := keep3 _ _ hv hb
  have gl3 := got_lt hg3
  obtain ⟨q3, n3, e3, rfl⟩ := o3.sl.isSlice
  try simp -implicitDefEqProofs (disch := (try simp only [sl]); try omega) only [sm,aSel,Qu,Qv,Qw,Qx,Qy,Qj,Qi,Qq,QC,Qz,bd,QF,look,aput,Qm,Qc,QA,Qd,ty,↓reduceIte,Nat.reduceEqDiff,Nat.reduceAdd,Nat.reduceSub,Nat.reduceMul,Int.reduceLT,Int.reduceLE,Int.reduceNeg,Int.reduceToNat,reduceCtorEq,Nat.reduceBEq,Nat.reduceBNe,Qk,Qe,Value.cells,am,mm,keep, QO, hz32, hdl, bd, ha3, hg3, hc1, hc2, gl3]
  try (refine hK_ _ _ ?_; clear hK_ K_; repeat first | refine QL ?_ | refine QM ?_)
  obtain ⟨H4, hH4⟩ : ∃ H4, H4 = H3.set gb (.own [Value.slice q3 n3 e3]) := ⟨_, rfl⟩
  have hg4 : H4[gb]? = some (.own [Value.slice q3 n3 e3]) := by rw [hH4]; exact gset _ _ _ gl3
  have ho4 : But gb H3 H4 := by rw [hH4]; exact set_other H3 gb _
  have hl4 : H4.length = H3.length := by rw [hH4, List.length_set]
  rw [show ([sv].set 0 (Value.slice q3 n3 e3)) = [Value.slice q3 n3 e3] from rfl, ← hH4]
  have hv4 : SL H4 (.slice p n e) (b.map U8) := hv3.but (.inr (hfar _ _ hv hb).1) ho4
  have hz4 := ho4 H.length _ (by omega) hz3
  clear f_ N_ fo_
  (repeat first | refine Qo ?_ | refine Qn ?_); refine QK (by kernel_rfl) ?_; intro K_ hK_; simp -implicitDefEqProofs (disch := (try simp only [sl]); try omega) only [sm,QJ,Qj,Qi,Qq,QC,bd,look,aput,Qm,ty,↓reduceIte,Nat.reduceEqDiff,Nat.reduceAdd,Nat.reduceSub,Nat.reduceMul,Int.reduceLT,Int.reduceLE,Int.reduceNeg,Int.reduceToNat,reduceCtorEq,Nat.reduceBEq,Nat.reduceBNe,Qk,Qe,Value.cells,am,mm,keep, QO, hz32, hdl, bd, ha3, hg3, hc1, hc2, gl3]
  refine ACalls.mono (sumf_calls _ _ _ (one_part hv4) (by show 1 ≤ _; decide) (by rw [allB_one]; omega)) ?_
  rintro _ H5 ⟨rfl, e5⟩
  rw [allB_one]
  have e5' : Ext H4 H5 := Ext.trans (Ext.push _ _) e5
  have hz5 := e5' _ _ hz4
  have gz5 := got_lt hz5
  try simp -implicitDefEqProofs (disch := (try simp only [sl]); try omega) only [sm,QJ,Qj,Qi,Qq,QC,bd,look,aput,Qm,ty,↓reduceIte,Nat.reduceEqDiff,Nat.reduceAdd,Nat.reduceSub,Nat.reduceMul,Int.reduceLT,Int.reduceLE,Int.reduceNeg,Int.reduceToNat,reduceCtorEq,Nat.reduceBEq,Nat.reduceBNe,Qk,Qe,Value.cells,am,mm,keep, QO, hz32, hdl, hov, hz5, gz5]
  try (refine hK_ _ _ ?_; clear hK_ K_; repeat first | refine QL ?_ | refine QM ?_)
  first | refine awp_ret ?_ | skip
  show ∃ v, aresults Try.prog Try.f33 _ _ = some v ∧ _
  rw [aresults_1 (r := .cell 4 22) (by kernel_rfl)]
  simp -implicitDefEqProofs (disch := (try simp only [sl]); try omega) only [aresult, Option.some.injEq, exists_eq_left', sm,Qj,Qi,Qq,QC,Qz,bd,QF,look,aput,QB,Qf,QA,ty,↓reduceIte,Nat.reduceEqDiff,Nat.reduceAdd,Nat.reduceSub,Nat.reduceMul,Int.reduceLT,Int.reduceLE,Int.reduceNeg,Int.reduceToNat,reduceCtorEq,Nat.reduceBEq,Nat.reduceBNe,Qk,Qe,Value.cells,am,mm,keep, QO, hz32, hdl, hov, hz5, gz5]
  have hgH : gb ≠ H.length := by omega
  have hb6 : But H.length H4 (H5.set H.length (.own ((digest b).map U8))) := (But.of_ext e5').set _
  have hs3z : ∀ o n e, Value.slice q3 n3 e3 ≠ .slice (some ⟨H.length, o, none⟩) n e := fun o n e k => by
    have h1 := (o3.cells k).2.1
    rw [hz3] at h1
    injection h1 with h1
    injection h1 with h1
    have := congrArg List.length h1
    simp only [List.length_map, List.length_append, List.length_singleton, hz32] at this
    omega
  have hfz : ∀ (v : Value) (b : List UInt8), SL H v (b.map U8) → 2 < b.length → ∀ o n e, v ≠ .slice (some ⟨H.length, o, none⟩) n e := fun v b h hb o n e k => by
    rcases h.blk with h1 | h1
    · have := congrArg List.length h1
      simp only [List.length_map, List.length_nil] at this
      omega
    · have := h1 _ _ _ _ k
      omega
  refine ⟨⟨.slice pw nw ew, .slice q3 n3 e3, ⟨hb6 _ _ hgH hg4, ?_, ?_⟩, ?_⟩, ?_⟩
  · rw [List.map_append]
    exact (o3.but (Nat.lt_succ_self gb) ho4).butn hs3z hb6
  · intro p hp
    rcases List.mem_append.1 hp with hp | hp
    · have h1 := ht p hp
      have h2 := hps p hp
      exact ((keep3 _ _ h1 h2).but (.inr (hfar _ _ h1 h2).1) ho4).but (.inr (hfz _ _ h1 h2)) hb6
    · simp only [List.mem_singleton] at hp
      subst hp
      exact (hw3.but (.inr fun o n e k => by have := hwg _ _ _ _ k; omega) ho4).but (.inr fun o n e k => by have := hwg _ _ _ _ k; omega) hb6
  · intro q o n e k
    have := fr3 _ _ _ _ k
    have := x2.length
    omega
  · intro p y hp hs hy
    have hpl := got_lt hy
    have h1 := B3 p y hp hs (x2 _ _ hy)
    exact hb6 _ _ (by omega) (ho4 _ _ hp h1)
end Go.Proofs.Ytpiaohajbbdpdaa
