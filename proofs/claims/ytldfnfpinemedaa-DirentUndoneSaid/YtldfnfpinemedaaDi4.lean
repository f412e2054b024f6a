/- dirent: Lay. -/
import Derived.Test.YtldfnfpinemedaaDi3
import Derived.Test.YtldfnfpinemedaaXo
namespace Go.Proofs.Ytldfnfpinemedaa
open Go Go.RowKit
--hide
set_option linter.unusedSimpArgs false
set_option linter.unusedVariables false
set_option maxRecDepth 4000
theorem txt24 (b : List UInt8) {s : List UInt8} (h : s.length ≤ 24) : eT s 24 = 0 ∧ tT b s 24 = b ++ txB 24 s := by
  have hok : okT s 24 := ⟨by decide, by decide, by omega⟩
  exact ⟨by rw [eT, if_pos hok], by rw [tT, if_pos hok, putT]; rfl⟩
theorem catE_snoc (l : List En) (i : Nat) (hi : i < l.length) : catE (l.take (i + 1)) = catE (l.take i) ++ [nodeB l[i]] ++ txB 24 l[i].1 := by
  rw [List.take_succ_eq_append_getElem hi, catE, List.map_append, List.flatten_append]
  simp [catE, enB]
theorem bs_data (l : List UInt8) : (bs l).data.toList = l := rfl
theorem node_byte {x : En} (h : oneE x) : Value.int .u8 (IntKind.u8.wrap x.2) = U8 (nodeB x) := by
  have h4 := h.2.2
  show _ = Value.int .u8 ((nodeB x).toNat : Int)
  unfold nodeB
  rw [UInt8.toNat_ofNat']
  congr 1
  unfold IntKind.wrap
  simp [IntKind.signed, IntKind.bits]
  omega
theorem OS.app1K {P : Program} {H : AH} {t tx b : Nat} {bytes : Nat} {s : Value} {xs : List Value} {c : Value} (he : elemT P t = some (1, bytes)) (ht : sliceT P tx = true) (hs : OS b H s xs) (hv : cellv c = true) (hb : (xs.length + 1) * bytes ≤ 140737488355328) (hp : 0 < bytes) (hbl : b ≤ H.length) :
    ∃ s' H', aappend P (H ++ [.own [c]]) t tx s (.slice (some ⟨H.length, 0, none⟩) 1 1) = some (s', H') ∧ OS b H' s' (xs ++ [c]) ∧ Keeps b H H' ∧ Rest s H H' := by
  have h1 : SL (H ++ [.own [c]]) (.slice (some ⟨H.length, 0, none⟩) 1 1) [c] := (OS.new (b := b) hbl (n := 1) (vs := [c]) rfl).sl
  obtain ⟨s', H', e1, e2, e3, e4⟩ := OS.appK he ht (hs.mono (Ext.push H [.own [c]])) h1 (by simp [hv]) (by simpa using hb) hp (by rw [List.length_append]; omega)
  exact ⟨s', H', e1, e2, ((Keeps.refl b H).push hbl _).trans e3, fun p y hp' hy => e4 p y hp' (Ext.push _ _ _ _ hy)⟩
theorem OS.app1E {P : Program} {H : AH} {t tx b : Nat} {bytes : Nat} {s : Value} {xs E : List Value} {c : Value} (he : elemT P t = some (1, bytes)) (ht : sliceT P tx = true) (hs : OS b H s xs) (hv : cellv c = true) (hb : (xs.length + 1) * bytes ≤ 140737488355328) (hp : 0 < bytes) (hbl : b ≤ H.length) :
    ∃ s' H', aappend P (H ++ [.own [c]] ++ [.own E]) t tx s (.slice (some ⟨H.length, 0, none⟩) 1 1) = some (s', H') ∧ OS b H' s' (xs ++ [c]) ∧ Keeps b H H' ∧ Rest s (H ++ [.own [c]] ++ [.own E]) H' := by
  have h1 : SL (H ++ [.own [c]] ++ [.own E]) (.slice (some ⟨H.length, 0, none⟩) 1 1) [c] := (OS.new (b := b) hbl (n := 1) (vs := [c]) rfl).sl.mono (Ext.push _ _)
  obtain ⟨s', H', e1, e2, e3, e4⟩ := OS.appK he ht ((hs.mono (Ext.push H [.own [c]])).mono (Ext.push _ [.own E])) h1 (by simp [hv]) (by simpa using hb) hp (by rw [List.length_append, List.length_append]; omega)
  exact ⟨s', H', e1, e2, (((Keeps.refl b H).push hbl _).push hbl _).trans e3, e4⟩
theorem OS.lt {b : Nat} {H : AH} {v : Value} {vs : List Value} (h : OS b H v vs) : ∀ q o m e, v = .slice (some ⟨q, o, .none⟩) m e → q < H.length ∧ b ≤ q := by
  intro q o m e k
  rcases h with ⟨h, _⟩ | ⟨g, h, h1, h2⟩
  · rw [h] at k; cases k
  · rw [h] at k; cases k; exact ⟨got_lt h1, h2⟩
theorem OS.rest {b : Nat} {H H' : AH} {v s : Value} {vs : List Value} (h : OS b H v vs) (r : Rest s H H') (hn : ∀ q o m e, v = .slice (some ⟨q, o, .none⟩) m e → ∀ o' n' e', s ≠ .slice (some ⟨q, o', .none⟩) n' e') : OS b H' v vs := by
  rcases h with h | ⟨g, h, h1, h2⟩
  · exact .inl h
  · exact .inr ⟨g, h, r _ _ (hn _ _ _ _ h) h1, h2⟩
set_option maxHeartbeats 8000000 in
theorem layE_calls (v : Value) (l : List En) (H : AH) (hv : SLn H v l.length (flE l)) (hm : l.length ≤ 1000) :
    ACalls Try.prog 44 #[v] H fun w H' => (∃ x, w = .tuple #[x, .int .i64 (leE l)] ∧ OS H.length H' x ((leK l).map U8)) ∧ Ext H H' := by
  have lv := alen_sln (P := Try.prog) (T := 53) (by simp only [ty]) hv
  have fo_ : True := trivial
  have N_ := Now.start H
  have f_ := N_.has
  simp only [Has] at f_
  refine acalls_of_body Try.func44 rfl Try.ntmps44 (by simp) ?_
  simp only [argsT, Nat.reduceAdd]
  iterate 1 ((repeat first | refine Qo ?_ | refine Qn ?_); (first | (refine QK (by kernel_rfl) ?_; intro K_ hK_; simp -implicitDefEqProofs (disch := (try simp only [sl]); try omega) only [sm,QJ,Qj,Qi,Qq,QC,bd,look,aput,Qm,QG,ty,↓reduceIte,Nat.reduceEqDiff,Nat.reduceAdd,Nat.reduceSub,Nat.reduceMul,Int.reduceLT,Int.reduceLE,Int.reduceNeg,Int.reduceToNat,reduceCtorEq,Nat.reduceBEq,Nat.reduceBNe,Qk,Qe,Value.cells,am,mm,keep, f_, fo_, aint, lv]; refine hK_ _ _ ?_; clear hK_ K_; repeat first | refine QL ?_ | refine QM ?_)))
  (repeat first | refine Qo ?_ | refine Qn ?_); refine QK (by kernel_rfl) ?_; intro K_ hK_; simp -implicitDefEqProofs (disch := (try simp only [sl]); try omega) only [sm,QJ,Qj,Qi,Qq,QC,bd,look,aput,Qm,QG,ty,↓reduceIte,Nat.reduceEqDiff,Nat.reduceAdd,Nat.reduceSub,Nat.reduceMul,Int.reduceLT,Int.reduceLE,Int.reduceNeg,Int.reduceToNat,reduceCtorEq,Nat.reduceBEq,Nat.reduceBNe,Qk,Qe,Value.cells,am,mm,keep, f_, fo_, aint, lv]
  refine ACalls.mono (mayE_calls v l H hv hm) ?_
  rintro _ H1 ⟨rfl, e1⟩
  replace N_ := N_.grow e1
  clear fo_; have fo_ := f_; clear f_
  have f_ := N_.has
  simp only [Has] at f_
  by_cases hk : mayE l
  · have hone := mayE_one hk
    try simp -implicitDefEqProofs (disch := (try simp only [sl]); try omega) only [sm,QJ,Qj,Qi,Qq,QC,bd,look,aput,Qm,QG,ty,↓reduceIte,Nat.reduceEqDiff,Nat.reduceAdd,Nat.reduceSub,Nat.reduceMul,Int.reduceLT,Int.reduceLE,Int.reduceNeg,Int.reduceToNat,reduceCtorEq,Nat.reduceBEq,Nat.reduceBNe,Qk,Qe,Value.cells,am,mm,keep, f_, fo_, aint, lv, decide_eq_true hk, Bool.not_true]
    try (refine hK_ _ _ ?_; clear hK_ K_; repeat first | refine QL ?_ | refine QM ?_)
    repeat first | refine Qo ?_ | refine Qn ?_
    refine awp_if false rfl (by first | (simp only [aeval_tmp, look, ↓reduceIte, Nat.reduceEqDiff]; try rfl) | rfl) (fun h => absurd h (by decide)) (fun _ => ?_)
    iterate 3 ((repeat first | refine Qo ?_ | refine Qn ?_); (first | (refine QK (by kernel_rfl) ?_; intro K_ hK_; simp -implicitDefEqProofs (disch := (try simp only [sl]); try omega) only [sm,QJ,Qj,Qi,Qq,QC,bd,look,aput,ty,↓reduceIte,Nat.reduceEqDiff,Nat.reduceAdd,Nat.reduceSub,Nat.reduceMul,Int.reduceLT,Int.reduceLE,Int.reduceNeg,Int.reduceToNat,reduceCtorEq,Nat.reduceBEq,Nat.reduceBNe,Qk,Qe,Value.cells,am,mm,keep, f_, fo_, aint, lv]; refine hK_ _ _ ?_; clear hK_ K_; repeat first | refine QL ?_ | refine QM ?_) | (refine awp_skip ?_; repeat first | refine QL ?_ | refine QM ?_)))
    repeat first | refine Qo ?_ | refine Qn ?_
    refine awp_forK [10, 11] (fun x : Nat × Value × AH => [(12, I64 x.1), (4, x.2.1)]) (fun x : Nat × Value × AH => x.2.2) (fun x : Nat × Value × AH => x.1 ≤ l.length ∧ OS H.length x.2.2 x.2.1 ((catE (l.take x.1)).map U8) ∧ Ext H x.2.2) (fun x : Nat × Value × AH => l.length - x.1) ((0, .slice none 0 0, H1)) (⟨Nat.zero_le _, OS.nil _ _, e1⟩) (by repeat first | exact Forgets.nil | refine Forgets.cons (by first | (simp only [look, ↓reduceIte, Nat.reduceEqDiff]; done) | (simp only [look, ↓reduceIte, Nat.reduceEqDiff]; rfl) | simp [look]) ?_) rfl ?_
    rintro ⟨i, s, H3⟩ ⟨hi, o3, x3⟩
    simp only [] at hi o3 x3 ⊢
    clear f_ fo_ N_
    have N_ : Now H H3 [] := ⟨x3, trivial⟩
    have f_ := N_.has
    simp only [Has] at f_
    have fo_ := True.intro
    have hct := catE_length (l := l.take i) (fun x hx => hone x (List.mem_of_mem_take hx))
    have htl : (l.take i).length = i := by rw [List.length_take]; omega
    rw [htl] at hct
    by_cases hlt : i < l.length
    · obtain ⟨g, o, e, cs, hve, hcs, hcc, hlen⟩ := hv.at (enc_hl l) i hlt
      cases hve
      have hx := hone _ (List.getElem_mem hlt)
      have hsn := catE_snoc l i hlt
      generalize l[i] = x at *
      have hcs3 := x3.cells hcs
      have xl := enc_length x
      have xc := enc_cellv x
      have xt := enc_take x
      have x0 := enc_0 x
      have x1 := enc_1 x
      have xo := enc_ovr ez x
      have zl := enc_length ez
      have d1 := bs_data x.1
      have z1 := bs_size x.1
      have hii : IntKind.i64.wrap ((i : Int) + 1) = (i : Int) + 1 := wi64 _ (by omega) (by omega)
      have hnb := node_byte hx
      iterate 1 ((repeat first | refine Qo ?_ | refine Qn ?_); (first | (refine QK (by kernel_rfl) ?_; intro K_ hK_; simp -implicitDefEqProofs (disch := (try simp only [sl]); try omega) only [sm,QJ,Qj,Qi,Qq,QC,bd,look,aput,QI,abin,anil,ty,↓reduceIte,Nat.reduceEqDiff,Nat.reduceAdd,Nat.reduceSub,Nat.reduceMul,Int.reduceLT,Int.reduceLE,Int.reduceNeg,Int.reduceToNat,reduceCtorEq,Nat.reduceBEq,Nat.reduceBNe,Qk,Qe,Value.cells,am,mm,keep, f_, fo_, aint, lv, hcs3, hcc, hlen, xl, xc, xt, x0, x1, xo, zl, zE, d1, z1, hlt]; refine hK_ _ _ ?_; clear hK_ K_; repeat first | refine QL ?_ | refine QM ?_)))
      repeat first | refine Qo ?_ | refine Qn ?_
      refine awp_if true rfl (by first | (simp only [aeval_tmp, look, ↓reduceIte, Nat.reduceEqDiff]; try rfl) | rfl) (fun _ => ?_) (fun h => absurd h (by decide))
      iterate 2 ((repeat first | refine Qo ?_ | refine Qn ?_); (first | (refine QK (by kernel_rfl) ?_; intro K_ hK_; simp -implicitDefEqProofs (disch := (try simp only [sl]); try omega) only [sm,QJ,Qj,Qi,Qq,QC,Qz,bd,QF,look,aput,Qm,Qb,QA,ty,↓reduceIte,Nat.reduceEqDiff,Nat.reduceAdd,Nat.reduceSub,Nat.reduceMul,Int.reduceLT,Int.reduceLE,Int.reduceNeg,Int.reduceToNat,reduceCtorEq,Nat.reduceBEq,Nat.reduceBNe,Qk,Qe,Value.cells,am,mm,keep, f_, fo_, aint, lv, hcs3, hcc, hlen, xl, xc, xt, x0, x1, xo, zl, zE, d1, z1, hlt]; refine hK_ _ _ ?_; clear hK_ K_; repeat first | refine QL ?_ | refine QM ?_) | (refine awp_skip ?_; repeat first | refine QL ?_ | refine QM ?_)))
      first | refine AWp.snap8 N_ ?_ | refine AWp.snap7 N_ ?_ | refine AWp.snap6 N_ ?_ | refine AWp.snap5 N_ ?_ | refine AWp.snap4 N_ ?_ | refine AWp.snap3 N_ ?_ | refine AWp.snap2 N_ ?_ | refine AWp.snap1 N_ ?_
      clear fo_; have fo_ := f_; clear f_ N_; intro H4 xH4 lH4 N_
      have f_ := N_.has
      simp only [Has] at f_
      have hsl := o3.lt
      have hs4 : ∀ o n e, s ≠ .slice (some ⟨H3.length, o, none⟩) n e := fun o n e k => by have := (hsl _ _ _ _ k).1; omega
      obtain ⟨s5, H5, ha5, o5, k5, r5⟩ := OS.app1E (P := Try.prog) (t := 85) (tx := 85) (bytes := 1) (H := H4) (c := U8 (nodeB x)) (E := x.1.map U8) (by simp only [ty]) (by simp only [ty]) (o3.mono xH4) rfl (by rw [List.length_map, hct]; omega) (by decide) (by have := x3.length; have := xH4.length; omega)
      have x5 : Ext H H5 := k5.ext (Nat.le_refl _) (x3.trans xH4)
      have b5 := r5 _ _ hs4 (Ext.push _ _ _ _ (Ext.push _ _ _ _ f_.1.2.1))
      have n5 : H5[H4.length + 1]? = some (.own (x.1.map U8)) := by
        have l1 : (H4 ++ [ABlk.own [U8 (nodeB x)]]).length = H4.length + 1 := by rw [List.length_append]; rfl
        refine r5 _ _ (fun o n e k => by have := (hsl _ _ _ _ k).1; have := xH4.length; omega) ?_
        rw [← l1]; exact gpush _ _
      have c5 := AH.cells_own b5
      have l5 := got_lt b5
      have hm5 : (catE (l.take i)).map U8 ++ [U8 (nodeB x)] = (catE (l.take i) ++ [nodeB x]).map U8 := by rw [List.map_append]; rfl
      rw [hm5] at o5
      (repeat first | refine Qo ?_ | refine Qn ?_); refine awp_region_drawK (id := 7) [(0, []), (1, []), (2, []), (3, []), (4, []), (6, []), (7, []), (8, []), (5, [7, 8]), (9, []), (10, []), (11, []), (12, []), (13, [])] mixed (by kernel_rfl) ?_; intro K_ hK_; simp -implicitDefEqProofs (disch := (try simp only [sl]); try omega) only [sm,aSel,Qu,Qv,Qw,Qx,Qy,Qj,Qi,Qq,QC,Qz,bd,QF,look,aput,Qm,QH,Qg,Qc,QA,Qh,ty,↓reduceIte,Nat.reduceEqDiff,Nat.reduceAdd,Nat.reduceSub,Nat.reduceMul,Int.reduceLT,Int.reduceLE,Int.reduceNeg,Int.reduceToNat,reduceCtorEq,Nat.reduceBEq,Nat.reduceBNe,Qk,Qe,Value.cells,am,mm,keep, f_, fo_, aint, lv, hcs3, hcc, hlen, xl, xc, xt, x0, x1, xo, zl, zE, d1, z1, hnb, ha5, b5, c5, l5]
      have N_ : Now H H5 [] := ⟨x5, trivial⟩
      have u5 : SL H5 (.slice (some ⟨H4.length + 1, 0, none⟩) x.1.length 1) (x.1.map U8) := SL.own _ (by rw [List.length_map]) n5
      refine ACalls.mono (text_u s5 _ (catE (l.take i) ++ [nodeB x]) x.1 24 H5 o5.sl u5 (by rw [List.length_append, hct]; simp only [List.length_singleton]; omega) (by have := hx.2.1; omega)) ?_
      rintro _ H6 ⟨w6, rfl, o6, e6⟩
      rw [(txt24 [] hx.2.1).1]
      rw [(txt24 _ hx.2.1).2, ← hsn] at o6
      try simp -implicitDefEqProofs (disch := (try simp only [sl]); try omega) only [sm,aSel,Qu,Qv,Qw,Qx,Qy,Qj,Qi,Qq,QC,Qz,bd,QF,look,aput,Qm,QH,Qg,Qc,QA,Qh,ty,↓reduceIte,Nat.reduceEqDiff,Nat.reduceAdd,Nat.reduceSub,Nat.reduceMul,Int.reduceLT,Int.reduceLE,Int.reduceNeg,Int.reduceToNat,reduceCtorEq,Nat.reduceBEq,Nat.reduceBNe,Qk,Qe,Value.cells,am,mm,keep, aint, lv]
      try (refine hK_ _ _ ?_; clear hK_ K_; repeat first | refine QL ?_ | refine QM ?_)
      iterate 1 ((repeat first | refine Qo ?_ | refine Qn ?_); (first | (refine QK (by kernel_rfl) ?_; intro K_ hK_; simp -implicitDefEqProofs (disch := (try simp only [sl]); try omega) only [sm,QJ,Qj,Qi,Qq,QC,bd,look,aput,QI,abin,anil,ty,↓reduceIte,Nat.reduceEqDiff,Nat.reduceAdd,Nat.reduceSub,Nat.reduceMul,Int.reduceLT,Int.reduceLE,Int.reduceNeg,Int.reduceToNat,reduceCtorEq,Nat.reduceBEq,Nat.reduceBNe,Qk,Qe,Value.cells,am,mm,keep, aint, lv, hii]; refine hK_ _ _ ?_; clear hK_ K_; repeat first | refine QL ?_ | refine QM ?_)))
      refine ⟨(i + 1, w6, H6), ⟨by simp only []; omega, o6.low x5.length, x5.trans e6⟩, (by repeat first | exact Forgets.nil | refine Forgets.cons (by first | (simp only [look, ↓reduceIte, Nat.reduceEqDiff]; done) | (simp only [look, ↓reduceIte, Nat.reduceEqDiff]; rfl) | simp [look, hii]) ?_), ?_⟩
      first | omega | exact ⟨rfl, by omega⟩ | exact ⟨rfl, by simp only []; omega⟩ | (simp only []; omega)
    obtain rfl : i = l.length := by omega
    rw [List.take_length] at o3 hct
    iterate 1 ((repeat first | refine Qo ?_ | refine Qn ?_); (first | (refine QK (by kernel_rfl) ?_; intro K_ hK_; simp -implicitDefEqProofs (disch := (try simp only [sl]); try omega) only [sm,QJ,Qj,Qi,Qq,QC,bd,look,aput,QI,abin,anil,ty,↓reduceIte,Nat.reduceEqDiff,Nat.reduceAdd,Nat.reduceSub,Nat.reduceMul,Int.reduceLT,Int.reduceLE,Int.reduceNeg,Int.reduceToNat,reduceCtorEq,Nat.reduceBEq,Nat.reduceBNe,Qk,Qe,Value.cells,am,mm,keep, f_, fo_, aint, lv, hlt]; refine hK_ _ _ ?_; clear hK_ K_; repeat first | refine QL ?_ | refine QM ?_)))
    repeat first | refine Qo ?_ | refine Qn ?_
    refine awp_if false rfl (by first | (simp only [aeval_tmp, look, ↓reduceIte, Nat.reduceEqDiff]; try rfl) | rfl) (fun h => absurd h (by decide)) (fun _ => ?_)
    iterate 2 ((repeat first | refine Qo ?_ | refine Qn ?_); (first | (refine QK (by kernel_rfl) ?_; intro K_ hK_; simp -implicitDefEqProofs (disch := (try simp only [sl]); try omega) only [sm,QJ,Qj,Qi,Qq,QC,bd,look,aput,ty,↓reduceIte,Nat.reduceEqDiff,Nat.reduceAdd,Nat.reduceSub,Nat.reduceMul,Int.reduceLT,Int.reduceLE,Int.reduceNeg,Int.reduceToNat,reduceCtorEq,Nat.reduceBEq,Nat.reduceBNe,Qk,Qe,Value.cells,am,mm,keep, f_, fo_, aint, lv]; refine hK_ _ _ ?_; clear hK_ K_; repeat first | refine QL ?_ | refine QM ?_) | (refine awp_exit ?_; (repeat first | refine aThen_exit ?_ | refine aIn_out rfl ?_); refine aIn_here ?_; repeat first | refine QL ?_ | refine QM ?_)))
    first | refine awp_ret ?_ | skip
    show ∃ v, aresults Try.prog Try.f44 _ _ = some v ∧ _
    rw [aresults_2 (r := .tmp 2) (s := .tmp 3) (by kernel_rfl)]
    simp -implicitDefEqProofs (disch := (try simp only [sl]); try omega) only [aresult, Option.some.injEq, exists_eq_left', sm,Qj,Qi,Qq,QC,Qz,bd,QF,look,aput,QB,Qf,QA,ty,↓reduceIte,Nat.reduceEqDiff,Nat.reduceAdd,Nat.reduceSub,Nat.reduceMul,Int.reduceLT,Int.reduceLE,Int.reduceNeg,Int.reduceToNat,reduceCtorEq,Nat.reduceBEq,Nat.reduceBNe,Qk,Qe,Value.cells,am,mm,keep, f_, fo_, aint, lv]
    rw [leE, leK, if_pos hk, if_pos hk]
    exact ⟨⟨_, rfl, o3⟩, x3⟩
  · -- extras
    try simp -implicitDefEqProofs (disch := (try simp only [sl]); try omega) only [sm,QJ,Qj,Qi,Qq,QC,bd,look,aput,Qm,QG,ty,↓reduceIte,Nat.reduceEqDiff,Nat.reduceAdd,Nat.reduceSub,Nat.reduceMul,Int.reduceLT,Int.reduceLE,Int.reduceNeg,Int.reduceToNat,reduceCtorEq,Nat.reduceBEq,Nat.reduceBNe,Qk,Qe,Value.cells,am,mm,keep, f_, fo_, aint, lv, decide_eq_false hk, Bool.not_false]
    try (refine hK_ _ _ ?_; clear hK_ K_; repeat first | refine QL ?_ | refine QM ?_)
    repeat first | refine Qo ?_ | refine Qn ?_
    refine awp_if true rfl (by first | (simp only [aeval_tmp, look, ↓reduceIte, Nat.reduceEqDiff]; try rfl) | rfl) (fun _ => ?_) (fun h => absurd h (by decide))
    iterate 1 ((repeat first | refine Qo ?_ | refine Qn ?_); (first | (refine QK (by kernel_rfl) ?_; intro K_ hK_; simp -implicitDefEqProofs (disch := (try simp only [sl]); try omega) only [sm,QJ,Qj,Qi,Qq,QC,bd,look,aput,ty,↓reduceIte,Nat.reduceEqDiff,Nat.reduceAdd,Nat.reduceSub,Nat.reduceMul,Int.reduceLT,Int.reduceLE,Int.reduceNeg,Int.reduceToNat,reduceCtorEq,Nat.reduceBEq,Nat.reduceBNe,Qk,Qe,Value.cells,am,mm,keep, f_, fo_, aint, lv]; refine hK_ _ _ ?_; clear hK_ K_; repeat first | refine QL ?_ | refine QM ?_)))
    first | refine awp_ret ?_ | skip
    show ∃ v, aresults Try.prog Try.f44 _ _ = some v ∧ _
    rw [aresults_2 (r := .tmp 2) (s := .tmp 3) (by kernel_rfl)]
    simp -implicitDefEqProofs (disch := (try simp only [sl]); try omega) only [aresult, Option.some.injEq, exists_eq_left', sm,Qj,Qi,Qq,QC,Qz,bd,QF,look,aput,QB,Qf,QA,ty,↓reduceIte,Nat.reduceEqDiff,Nat.reduceAdd,Nat.reduceSub,Nat.reduceMul,Int.reduceLT,Int.reduceLE,Int.reduceNeg,Int.reduceToNat,reduceCtorEq,Nat.reduceBEq,Nat.reduceBNe,Qk,Qe,Value.cells,am,mm,keep, f_, fo_, aint, lv]
    rw [leE, leK, if_neg hk, if_neg hk]
    exact ⟨⟨_, rfl, OS.nil _ _⟩, N_.ext⟩
end Go.Proofs.Ytldfnfpinemedaa
