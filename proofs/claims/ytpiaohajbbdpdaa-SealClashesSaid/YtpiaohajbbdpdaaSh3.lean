/- sha: states: New, Write, Len. -/
import Derived.Test.YtpiaohajbbdpdaaSh2
namespace Go.Proofs.Ytpiaohajbbdpdaa
open Go Go.RowKit
set_option linter.unusedSimpArgs false
set_option linter.unusedVariables false
set_option maxRecDepth 4000
/-- The words behind the first n blocks. -/
def absorb (bs : List UInt8) : Nat → List UInt32
  | 0 => firstL
  | n + 1 => blockW (absorb bs n) ((bs.drop (64 * n)).take 64)
theorem absorb_length (bs : List UInt8) : ∀ n, (absorb bs n).length = 8
  | 0 => rfl
  | _ + 1 => addL_length _ _
theorem absorb_append (bs ys : List UInt8) : ∀ n, 64 * n ≤ bs.length → absorb (bs ++ ys) n = absorb bs n
  | 0, _ => rfl
  | n + 1, h => by
    rw [absorb, absorb, absorb_append bs ys n (by omega), List.drop_append_of_le_length (by omega), List.take_append_of_le_length (by rw [List.length_drop]; omega)]
/-- The cells of a state. -/
def stX (hs : List UInt32) (r : Value) (n : UInt64) : List Value := hs.map U32 ++ [r, U64 n]
theorem stx : (∀ hs r n, hs.length = 8 → (stX hs r n).length = 10) ∧ (∀ hs r n, hs.length = 8 → (stX hs r n)[8]? = some r) ∧ (∀ hs r n, hs.length = 8 → (stX hs r n)[9]? = some (.int .u64 (n.toNat : Int))) ∧
    (∀ hs r n r', hs.length = 8 → (stX hs r n).set 8 r' = stX hs r' n) ∧ (∀ hs r n m, hs.length = 8 → (stX hs r n).set 9 (.int .u64 ((m : UInt64).toNat : Int)) = stX hs r m) ∧
    (∀ hs r n, hs.length = 8 → (stX hs r n).take 8 = hs.map U32) ∧ (∀ hs r n ws, hs.length = 8 → ws.length = 8 → ovr (stX hs r n) 0 (ws.map U32) = stX ws r n) ∧
    (∀ hs r n cs, hs.length = 8 → cs.length = 10 → ovr cs 0 (stX hs r n) = stX hs r n) := by
  refine ⟨fun hs r n h => by simp [stX, h], fun hs r n h => ?_, fun hs r n h => ?_, fun hs r n r' h => ?_, fun hs r n m h => ?_, fun hs r n h => ?_, fun hs r n ws h hw => ?_, fun hs r n cs h hc => ovr_all _ _ (by simp [stX, h, hc])⟩
  · rw [stX, List.getElem?_append_right (by simp [h])]; simp [h]
  · rw [stX, List.getElem?_append_right (by simp [h])]; simp [h]
  · rw [stX, List.set_append_right _ _ (by simp [h])]; simp [h, stX]
  · rw [stX, List.set_append_right _ _ (by simp [h])]; simp [h, stX]
  · rw [stX]; exact List.take_left' (by simp [h])
  · obtain ⟨a, b, c, d, e, f, g, i, rfl⟩ := eight _ hw
    obtain ⟨a', b', c', d', e', f', g', i', rfl⟩ := eight _ h
    rfl
theorem stx_get (hs : List UInt32) (r : Value) (n : UInt64) (k : Nat) (h : hs.length = 8) (hk : k < 8) : (stX hs r n)[k]? = some (.int .u32 (((hs.getD k 0).toNat : Nat) : Int)) := by
  rw [stX, List.getElem?_append_left (by rw [List.length_map]; omega)]; exact mg32 _ _ (by omega)
theorem stx_cellv (hs : List UInt32) (r : Value) (n : UInt64) (hr : cellv r = true) : (stX hs r n).all cellv = true := by
  rw [stX, List.all_append, all32]; simp only [List.all_cons, hr, List.all_nil, Bool.true_and, Bool.and_true]; rfl
theorem SL.cellv' {H : AH} {v : Value} {vs : List Value} (h : SL H v vs) : cellv v = true := by
  rcases h with ⟨rfl, _⟩ | ⟨g, o, e, rfl, _⟩ <;> rfl
/-- A state of bytes. -/
def St (b : Nat) (H : AH) (v : Value) (bs : List UInt8) : Prop := ∃ hs r, v = .agg (stX hs r (UInt64.ofNat bs.length)).toArray ∧ hs.length = 8 ∧ SL H r ((bs.drop (64 * (bs.length / 64))).map U8) ∧ (64 ≤ bs.length → hs = absorb bs (bs.length / 64)) ∧ ∀ g o n e, r = .slice (some ⟨g, o, none⟩) n e → b ≤ g
theorem St.mono {b : Nat} {H H' : AH} {v : Value} {bs : List UInt8} (h : St b H v bs) (e : Ext H H') : St b H' v bs := by
  obtain ⟨hs, r, h1, h2, h3, h4⟩ := h
  exact ⟨hs, r, h1, h2, h3.mono e, h4⟩
theorem St.low {b c : Nat} {H : AH} {v : Value} {bs : List UInt8} (h : St b H v bs) (hc : c ≤ b) : St c H v bs := by
  obtain ⟨hs, r, h1, h2, h3, h4, h5⟩ := h
  exact ⟨hs, r, h1, h2, h3, h4, fun g o n e he => Nat.le_trans hc (h5 g o n e he)⟩
theorem St.keep {b : Nat} {H H' : AH} {v : Value} {bs : List UInt8} (h : St b H v bs) (k : ∀ p x, b ≤ p → H[p]? = some x → H'[p]? = some x) : St b H' v bs := by
  obtain ⟨hs, r, h1, h2, h3, h4, h5⟩ := h
  refine ⟨hs, r, h1, h2, ?_, h4, h5⟩
  rcases h3 with h3 | ⟨g, o, e, rfl, h3⟩
  · exact .inl h3
  · refine .inr ⟨g, o, e, rfl, h3.imp id fun ⟨cs, hc, k1, k2⟩ => ⟨cs, ?_, k1, k2⟩⟩
    have hg := h5 g o _ e rfl
    rcases AH.cells_cases hc with hc | hc
    · exact AH.cells_own (k _ _ hg hc)
    · exact AH.cells_ro (k _ _ hg hc)
theorem St.set {b p : Nat} {H : AH} {v : Value} {bs : List UInt8} (h : St b H v bs) (hp : p < b) (x : ABlk) : St b (H.set p x) v bs := by
  obtain ⟨hs, r, h1, h2, h3, h4, h5⟩ := h
  exact ⟨hs, r, h1, h2, h3.setn x (fun o n e he => by have := h5 p o n e he; omega), h4, h5⟩
/-- A state's value as cells. -/
theorem St.cells {b : Nat} {H : AH} {v : Value} {bs : List UInt8} (h : St b H v bs) : ∃ X : List Value, v = .agg X.toArray ∧ X.length = 10 ∧ X.all cellv = true := by
  obtain ⟨hs, r, h1, h2, h3, h4, h5⟩ := h
  exact ⟨_, h1, stx.1 _ _ _ h2, stx_cellv _ _ _ h3.cellv'⟩
theorem St.zero (b : Nat) (H : AH) (hs : List UInt32) (hh : hs.length = 8) : St b H (.agg (stX hs (.slice none 0 0) 0).toArray) [] :=
  ⟨hs, _, rfl, hh, .inl ⟨rfl, rfl⟩, fun h => absurd h (by decide), fun _ _ _ _ h => by cases h⟩
set_option maxHeartbeats 1000000 in
theorem new_calls (H : AH) : ACalls Try.prog 48 #[] H fun v H' => (∀ b, St b H' v []) ∧ Ext H H' := by
  refine acalls_of_body Try.func48 rfl Try.ntmps48 (by simp) ?_
  simp only [argsT, Nat.reduceAdd]
  iterate 2 ((repeat first | refine Qo ?_ | refine Qn ?_); (first | refine Qp (by kernel_rfl) ?_); simp -implicitDefEqProofs (disch := (try simp only [sl]); try omega) only [sm,QJ,Qj,Qi,Qq,QC,bd,look,aput,Qm,QB,Qf,ty,↓reduceIte,Nat.reduceEqDiff,Nat.reduceAdd,Nat.reduceSub,Nat.reduceMul,Int.reduceLT,Int.reduceLE,Int.reduceNeg,Int.reduceToNat,reduceCtorEq,Nat.reduceBEq,Nat.reduceBNe,Qk,Qe,Value.cells,am,mm,keep])
  first | refine awp_ret ?_ | skip
  show ∃ v, aresults Try.prog Try.f48 _ _ = some v ∧ _
  rw [aresults_1 (r := .cell 0 93) (by kernel_rfl)]
  simp -implicitDefEqProofs (disch := (try simp only [sl]); try omega) only [aresult, Option.some.injEq, exists_eq_left', sm,Qj,Qi,Qq,QC,Qz,bd,QF,look,aput,QB,Qf,QA,ty,↓reduceIte,Nat.reduceEqDiff,Nat.reduceAdd,Nat.reduceSub,Nat.reduceMul,Int.reduceLT,Int.reduceLE,Int.reduceNeg,Int.reduceToNat,reduceCtorEq,Nat.reduceBEq,Nat.reduceBNe,Qk,Qe,Value.cells,am,mm,keep]
  exact ⟨fun b => St.zero b _ (zw 8) rfl, (by repeat first | assumption | exact Ext.refl _ | exact Ext.pre (by assumption) | exact Ext.pre (Ext.pre (by assumption)) | exact Ext.pre (Ext.pre (Ext.pre (by assumption))) | exact Ext.pre (Ext.pre (Ext.pre (Ext.pre (by assumption)))) | apply Ext.pushed | refine Ext.both ?_ _ _ | refine Ext.set ?_ _ (by omega))⟩
set_option maxHeartbeats 4000000 in
theorem write_calls {b : Nat} (v w : Value) (bs ys : List UInt8) (H : AH) (hv : St b H v bs) (hw : SL H w (ys.map U8)) (hl : bs.length + ys.length ≤ 1099511627776) :
    ACalls Try.prog 49 #[v, w] H fun v' H' => St H.length H' v' (bs ++ ys) ∧ Ext H H' := by
  obtain ⟨hs, r, rfl, hh, hr, habs, -⟩ := hv
  have hnn : (UInt64.ofNat bs.length).toNat = bs.length := by rw [UInt64.toNat_ofNat']; omega
  have lr := alen_sl (P := Try.prog) (T := 26) (by simp only [ty]) hr
  have lw := alen_sl (P := Try.prog) (T := 26) (by simp only [ty]) hw
  have hrl : ((bs.drop (64 * (bs.length / 64))).map U8).length = bs.length % 64 := by rw [List.length_map, List.length_drop]; omega
  rw [hrl] at lr
  rw [List.length_map] at lw
  have hcs : (bs ++ ys).length = bs.length + ys.length := List.length_append
  have hn2 : UInt64.ofNat bs.length + UInt64.ofNat ys.length = UInt64.ofNat (bs.length + ys.length) := (UInt64.ofNat_add _ _).symm
  generalize hN : UInt64.ofNat bs.length = n at *
  have hc := stx_cellv hs r n hr.cellv'
  have hw64 : IntKind.i64.wrap (n.toNat : Int) = ((bs.length : Nat) : Int) := by rw [hnn, wj64 (by omega) (by omega)]
  have hmod : bs.length < 64 → bs.length % 64 = bs.length := fun h => Nat.mod_eq_of_lt h
  have hfin := fun (hs' : List UInt32) => stx_cellv hs' r n hr.cellv'
  have hal := absorb_length bs (bs.length / 64)
  have hal := absorb_length bs (bs.length / 64)
  refine acalls_of_body Try.func49 rfl Try.ntmps49 (by simp) ?_
  simp only [argsT, Nat.reduceAdd]
  iterate 1 ((repeat first | refine Qo ?_ | refine Qn ?_); (first | refine Qp (by kernel_rfl) ?_); simp -implicitDefEqProofs (disch := (try simp only [sl]); try omega) only [sm,QJ,Qj,Qi,Qq,QC,bd,look,aput,QB,Qf,ty,↓reduceIte,Nat.reduceEqDiff,Nat.reduceAdd,Nat.reduceSub,Nat.reduceMul,Int.reduceLT,Int.reduceLE,Int.reduceNeg,Int.reduceToNat,reduceCtorEq,Nat.reduceBEq,Nat.reduceBNe,Qk,Qe,Value.cells,am,mm,keep, stx, hh, lr, lw, hc, hal])
  refine Qo ?_
  refine awp_join [1, 2, 4] (fun i : AH => []) (fun i : AH => i) (fun i : AH => Ext H i ∧ i[H.length]? = some (.own (stX (absorb bs (bs.length / 64)) r n)) ∧ i[H.length + 1]? = some (.own (stX (zw 8) (.slice none 0 0) 0))) ?_ ?_
  · have hZ : [Value.int .u32 0, .int .u32 0, .int .u32 0, .int .u32 0, .int .u32 0, .int .u32 0, .int .u32 0, .int .u32 0, .slice none 0 0, .int .u64 0] = stX (zw 8) (.slice none 0 0) 0 := rfl
    rw [hZ]
    by_cases h64 : bs.length < 64
    · have hlt : n.toNat < 64 := by omega
      have hm := hmod h64
      iterate 1 ((repeat first | refine Qo ?_ | refine Qn ?_); (first | refine Qp (by kernel_rfl) ?_); simp -implicitDefEqProofs (disch := (try simp only [sl]); try omega) only [sm,QJ,Qj,Qi,Qq,QC,Qz,bd,QF,look,aput,QH,QB,Qf,Qg,QI,abin,anil,Qc,QA,ty,↓reduceIte,Nat.reduceEqDiff,Nat.reduceAdd,Nat.reduceSub,Nat.reduceMul,Int.reduceLT,Int.reduceLE,Int.reduceNeg,Int.reduceToNat,reduceCtorEq,Nat.reduceBEq,Nat.reduceBNe,Qk,Qe,Value.cells,am,mm,keep, stx, hh, lr, lw, hc, hal, hlt, hw64, hm])
      repeat first | refine Qo ?_ | refine Qn ?_
      refine awp_if true rfl (by first | (simp only [aeval_tmp, look, ↓reduceIte, Nat.reduceEqDiff]; try rfl) | rfl) (fun _ => ?_) (fun h => absurd h (by decide))
      iterate 1 ((repeat first | refine Qo ?_ | refine Qn ?_); (first | refine Qp (by kernel_rfl) ?_); simp -implicitDefEqProofs (disch := (try simp only [sl]); try omega) only [sm,QJ,Qj,Qi,Qq,QC,bd,look,aput,Qm,QB,Qf,Qc,ty,↓reduceIte,Nat.reduceEqDiff,Nat.reduceAdd,Nat.reduceSub,Nat.reduceMul,Int.reduceLT,Int.reduceLE,Int.reduceNeg,Int.reduceToNat,reduceCtorEq,Nat.reduceBEq,Nat.reduceBNe,Qk,Qe,Value.cells,am,mm,keep, stx, hh, lr, lw, hc, hal])
      refine ACalls.mono (first_calls _) ?_
      rintro _ H1 ⟨rfl, e1⟩
      have a0 := e1 _ _ (show (H ++ [ABlk.own (stX hs r n)] ++ [ABlk.own (stX (zw 8) (.slice none 0 0) 0)])[H.length]? = some (.own (stX hs r n)) from (by simp -implicitDefEqProofs (disch := (try simp only [sl]); try omega) only [sm,Qj,Qi,Qq,QC,bd,look,aput,ty,↓reduceIte,Nat.reduceEqDiff,Nat.reduceAdd,Nat.reduceSub,Nat.reduceMul,Int.reduceLT,Int.reduceLE,Int.reduceNeg,Int.reduceToNat,reduceCtorEq,Nat.reduceBEq,Nat.reduceBNe,Qk,Qe,Value.cells,am,mm,keep]))
      have a1 := e1 _ _ (show (H ++ [ABlk.own (stX hs r n)] ++ [ABlk.own (stX (zw 8) (.slice none 0 0) 0)])[H.length + 1]? = some (.own (stX (zw 8) (.slice none 0 0) 0)) from (by simp -implicitDefEqProofs (disch := (try simp only [sl]); try omega) only [sm,Qj,Qi,Qq,QC,bd,look,aput,ty,↓reduceIte,Nat.reduceEqDiff,Nat.reduceAdd,Nat.reduceSub,Nat.reduceMul,Int.reduceLT,Int.reduceLE,Int.reduceNeg,Int.reduceToNat,reduceCtorEq,Nat.reduceBEq,Nat.reduceBNe,Qk,Qe,Value.cells,am,mm,keep]))
      have hfl : firstL.length = 8 := rfl
      have g0 := got_lt a0
      have hf0 : firstL = absorb bs (bs.length / 64) := by rw [show bs.length / 64 = 0 by omega]; rfl
      have hx : Ext H H1 := (by repeat first | assumption | exact Ext.refl _ | exact Ext.pre (by assumption) | exact Ext.pre (Ext.pre (by assumption)) | exact Ext.pre (Ext.pre (Ext.pre (by assumption))) | exact Ext.pre (Ext.pre (Ext.pre (Ext.pre (by assumption)))) | apply Ext.pushed | refine Ext.both ?_ _ _ | refine Ext.set ?_ _ (by omega))
      rw [← hf0]
      generalize firstL = fl at *
      try simp -implicitDefEqProofs (disch := (try simp only [sl]); try omega) only [sm,QJ,Qj,Qi,Qq,QC,bd,look,aput,Qm,QB,Qf,Qc,ty,↓reduceIte,Nat.reduceEqDiff,Nat.reduceAdd,Nat.reduceSub,Nat.reduceMul,Int.reduceLT,Int.reduceLE,Int.reduceNeg,Int.reduceToNat,reduceCtorEq,Nat.reduceBEq,Nat.reduceBNe,Qk,Qe,Value.cells,am,mm,keep, stx, hh, lr, lw, hc, hal, a0, hfl]
      try simp only [keep, look, ↓reduceIte, Nat.reduceEqDiff, List.cons_append, List.nil_append]
      refine ⟨H1.set H.length (.own (stX fl r n)), ⟨Ext.set hx _ (Nat.le_refl _), gset H1 _ _ g0, (gsetn H1 H.length (H.length + 1) _ (by omega)).trans a1⟩, ?_⟩
      first | exact ⟨(by repeat first | exact Forgets.nil | refine Forgets.cons (by first | (simp only [look, ↓reduceIte, Nat.reduceEqDiff]; done) | (simp only [look, ↓reduceIte, Nat.reduceEqDiff]; rfl) | simp [look]) ?_), rfl⟩ | refine ⟨(by repeat first | exact Forgets.nil | refine Forgets.cons (by first | (simp only [look, ↓reduceIte, Nat.reduceEqDiff]; done) | (simp only [look, ↓reduceIte, Nat.reduceEqDiff]; rfl) | simp [look]) ?_), ?_⟩ | exact (by repeat first | exact Forgets.nil | refine Forgets.cons (by first | (simp only [look, ↓reduceIte, Nat.reduceEqDiff]; done) | (simp only [look, ↓reduceIte, Nat.reduceEqDiff]; rfl) | simp [look]) ?_)
    · have hlt : ¬ n.toNat < 64 := by omega
      iterate 1 ((repeat first | refine Qo ?_ | refine Qn ?_); (first | refine Qp (by kernel_rfl) ?_); simp -implicitDefEqProofs (disch := (try simp only [sl]); try omega) only [sm,QJ,Qj,Qi,Qq,QC,Qz,bd,QF,look,aput,QH,QB,Qf,Qg,QI,abin,anil,Qc,QA,ty,↓reduceIte,Nat.reduceEqDiff,Nat.reduceAdd,Nat.reduceSub,Nat.reduceMul,Int.reduceLT,Int.reduceLE,Int.reduceNeg,Int.reduceToNat,reduceCtorEq,Nat.reduceBEq,Nat.reduceBNe,Qk,Qe,Value.cells,am,mm,keep, stx, hh, lr, lw, hc, hal, hlt])
      repeat first | refine Qo ?_ | refine Qn ?_
      refine awp_if false rfl (by first | (simp only [aeval_tmp, look, ↓reduceIte, Nat.reduceEqDiff]; try rfl) | rfl) (fun h => absurd h (by decide)) (fun _ => ?_)
      iterate 1 ((repeat first | refine Qo ?_ | refine Qn ?_); (first | refine awp_skip ?_); simp -implicitDefEqProofs (disch := (try simp only [sl]); try omega) only [sm,QJ,Qj,Qi,Qq,QC,Qz,bd,QF,look,aput,QH,QB,Qf,Qg,QI,abin,anil,Qc,QA,ty,↓reduceIte,Nat.reduceEqDiff,Nat.reduceAdd,Nat.reduceSub,Nat.reduceMul,Int.reduceLT,Int.reduceLE,Int.reduceNeg,Int.reduceToNat,reduceCtorEq,Nat.reduceBEq,Nat.reduceBNe,Qk,Qe,Value.cells,am,mm,keep, stx, hh, lr, lw, hc, hal])
      have hx : hs = absorb bs (bs.length / 64) := habs (by omega)
      rw [← hx]
      try simp only [keep, look, ↓reduceIte, Nat.reduceEqDiff, List.cons_append, List.nil_append]
      refine ⟨(H ++ [.own (stX hs r n)] ++ [.own (stX (zw 8) (.slice none 0 0) 0)]), ⟨(by repeat first | assumption | exact Ext.refl _ | exact Ext.pre (by assumption) | exact Ext.pre (Ext.pre (by assumption)) | exact Ext.pre (Ext.pre (Ext.pre (by assumption))) | exact Ext.pre (Ext.pre (Ext.pre (Ext.pre (by assumption)))) | apply Ext.pushed | refine Ext.both ?_ _ _ | refine Ext.set ?_ _ (by omega)), (by simp -implicitDefEqProofs (disch := (try simp only [sl]); try omega) only [sm,Qj,Qi,Qq,QC,bd,look,aput,ty,↓reduceIte,Nat.reduceEqDiff,Nat.reduceAdd,Nat.reduceSub,Nat.reduceMul,Int.reduceLT,Int.reduceLE,Int.reduceNeg,Int.reduceToNat,reduceCtorEq,Nat.reduceBEq,Nat.reduceBNe,Qk,Qe,Value.cells,am,mm,keep]), (by simp -implicitDefEqProofs (disch := (try simp only [sl]); try omega) only [sm,Qj,Qi,Qq,QC,bd,look,aput,ty,↓reduceIte,Nat.reduceEqDiff,Nat.reduceAdd,Nat.reduceSub,Nat.reduceMul,Int.reduceLT,Int.reduceLE,Int.reduceNeg,Int.reduceToNat,reduceCtorEq,Nat.reduceBEq,Nat.reduceBNe,Qk,Qe,Value.cells,am,mm,keep])⟩, ?_⟩
      first | exact ⟨(by repeat first | exact Forgets.nil | refine Forgets.cons (by first | (simp only [look, ↓reduceIte, Nat.reduceEqDiff]; done) | (simp only [look, ↓reduceIte, Nat.reduceEqDiff]; rfl) | simp [look]) ?_), rfl⟩ | refine ⟨(by repeat first | exact Forgets.nil | refine Forgets.cons (by first | (simp only [look, ↓reduceIte, Nat.reduceEqDiff]; done) | (simp only [look, ↓reduceIte, Nat.reduceEqDiff]; rfl) | simp [look]) ?_), ?_⟩ | exact (by repeat first | exact Forgets.nil | refine Forgets.cons (by first | (simp only [look, ↓reduceIte, Nat.reduceEqDiff]; done) | (simp only [look, ↓reduceIte, Nat.reduceEqDiff]; rfl) | simp [look]) ?_)
  rintro H1 ⟨e1, a0, a1⟩
  try simp -implicitDefEqProofs (disch := (try simp only [sl]); try omega) only [sm,QJ,Qj,Qi,Qq,QC,Qz,bd,QF,look,aput,QH,QB,Qf,Qg,QI,abin,anil,Qc,QA,ty,↓reduceIte,Nat.reduceEqDiff,Nat.reduceAdd,Nat.reduceSub,Nat.reduceMul,Int.reduceLT,Int.reduceLE,Int.reduceNeg,Int.reduceToNat,reduceCtorEq,Nat.reduceBEq,Nat.reduceBNe,Qk,Qe,Value.cells,am,mm,keep, stx, hh, lr, lw, hc, hal]
  have b0 := AH.cells_own a0
  have g0 := got_lt a0
  have g1 := got_lt a1
  have hqe : absorb bs (bs.length / 64) = absorb (bs ++ ys) (bs.length / 64) := (absorb_append bs ys _ (by omega)).symm
  rw [hqe] at a0 b0 hal
  have hrs : bs.drop (64 * (bs.length / 64)) ++ ys = (bs ++ ys).drop (64 * (bs.length / 64)) := (List.drop_append_of_le_length (by omega)).symm
  clear hc hfin habs hw64 hmod hqe
  generalize hq : absorb (bs ++ ys) (bs.length / 64) = h0 at *
  have hN2 : n + UInt64.ofNat ys.length = UInt64.ofNat (bs ++ ys).length := by rw [hcs]; exact hn2
  iterate 1 ((repeat first | refine Qo ?_ | refine Qn ?_); (first | refine Qp (by kernel_rfl) ?_); simp -implicitDefEqProofs (disch := (try simp only [sl]); try omega) only [sm,QJ,Qj,Qi,Qq,QC,Qz,bd,QF,look,aput,Qm,QH,QB,Qf,Qg,QI,abin,anil,Qc,QA,ty,↓reduceIte,Nat.reduceEqDiff,Nat.reduceAdd,Nat.reduceSub,Nat.reduceMul,Int.reduceLT,Int.reduceLE,Int.reduceNeg,Int.reduceToNat,reduceCtorEq,Nat.reduceBEq,Nat.reduceBNe,Qk,Qe,Value.cells,am,mm,keep, stx, lw, hal, b0, a0, wnat64])
  rw [hN2]
  generalize hm : UInt64.ofNat (bs ++ ys).length = m at *
  have e2 : Ext H (H1.set H.length (.own (stX h0 r m))) := Ext.set e1 _ (Nat.le_refl _)
  have a2 := gset H1 H.length (.own (stX h0 r m)) g0
  have a3 : (H1.set H.length (.own (stX h0 r m)))[H.length + 1]? = some (.own (stX (zw 8) (.slice none 0 0) 0)) := (gsetn H1 H.length (H.length + 1) _ (by omega)).trans a1
  generalize H1.set H.length (.own (stX h0 r m)) = H2 at *
  have g2 := got_lt a3
  have b2 := AH.cells_own a2
  obtain ⟨s3, H3, ha3, o3, k3⟩ := OS.app (P := Try.prog) (t := 26) (tx := 26) (bytes := 1) (by simp only [ty]) (by simp only [ty]) (OS.nil H2.length H2) (hr.mono e2) (all8 _) (by rw [List.length_nil, hrl]; omega) (by decide) (Nat.le_refl _)
  have e3 := k3.ext e2.length e2
  obtain ⟨s4, H4, ha4, o4, k4⟩ := OS.app (P := Try.prog) (t := 26) (tx := 26) (bytes := 1) (by simp only [ty]) (by simp only [ty]) o3 (hw.mono e3) (all8 _) (by rw [List.nil_append, hrl, List.length_map]; omega) (by decide) k3.1
  have e4 := k4.ext e2.length e3
  have k24 := k3.trans k4
  have a4 := k24.get g2 a3
  have a5 := k24.get (got_lt a2) a2
  rw [List.nil_append, ← List.map_append, hrs] at o4
  iterate 1 ((repeat first | refine Qo ?_ | refine Qn ?_); (first | refine Qp (by kernel_rfl) ?_); simp -implicitDefEqProofs (disch := (try simp only [sl]); try omega) only [sm,QJ,Qj,Qi,Qq,QC,Qz,bd,QF,look,aput,Qm,QB,Qf,Qc,QA,ty,↓reduceIte,Nat.reduceEqDiff,Nat.reduceAdd,Nat.reduceSub,Nat.reduceMul,Int.reduceLT,Int.reduceLE,Int.reduceNeg,Int.reduceToNat,reduceCtorEq,Nat.reduceBEq,Nat.reduceBNe,Qk,Qe,Value.cells,am,mm,keep, stx, lw, hal, b2, ha3, ha4])
  clear ha3 ha4 o3 k3 k4 e3 a0 a1 b0 b2 g0 g1
  have hz8 : (zw 8).length = 8 := rfl
  generalize hcsd : bs ++ ys = cs at *
  generalize hqd : bs.length / 64 = q at *
  have hq64 : 64 * q ≤ cs.length ∧ q ≤ cs.length / 64 := by omega
  rcases o4 with ⟨rfl, hnil⟩ | ⟨g, hs4, hg, hgb⟩
  · have hl0 : cs.length = 64 * q := by
      have := congrArg List.length hnil
      rw [List.length_map, List.length_drop, List.length_nil] at this; omega
    repeat first | refine Qo ?_ | refine Qn ?_
    refine awp_forK [2, 4] (fun i : Unit => [(5, .slice none 0 0)]) (fun i : Unit => H4) (fun i : Unit => True) (fun i : Unit => 0) (()) (trivial) (by repeat first | exact Forgets.nil | refine Forgets.cons (by first | (simp only [look, ↓reduceIte, Nat.reduceEqDiff]; done) | (simp only [look, ↓reduceIte, Nat.reduceEqDiff]; rfl) | simp [look]) ?_) rfl ?_
    intro i hi
    try simp -implicitDefEqProofs (disch := (try simp only [sl]); try omega) only [sm,QJ,Qj,Qi,Qq,QC,Qz,bd,QF,look,aput,Qm,QB,Qf,Qc,QA,ty,↓reduceIte,Nat.reduceEqDiff,Nat.reduceAdd,Nat.reduceSub,Nat.reduceMul,Int.reduceLT,Int.reduceLE,Int.reduceNeg,Int.reduceToNat,reduceCtorEq,Nat.reduceBEq,Nat.reduceBNe,Qk,Qe,Value.cells,am,mm,keep, stx, lw, hal]
    iterate 1 ((repeat first | refine Qo ?_ | refine Qn ?_); (first | refine Qp (by kernel_rfl) ?_); simp -implicitDefEqProofs (disch := (try simp only [sl]); try omega) only [sm,QJ,Qj,Qi,Qq,QC,bd,look,aput,QB,Qf,QI,abin,anil,ty,↓reduceIte,Nat.reduceEqDiff,Nat.reduceAdd,Nat.reduceSub,Nat.reduceMul,Int.reduceLT,Int.reduceLE,Int.reduceNeg,Int.reduceToNat,reduceCtorEq,Nat.reduceBEq,Nat.reduceBNe,Qk,Qe,Value.cells,am,mm,keep, stx, lw, hal])
    repeat first | refine Qo ?_ | refine Qn ?_
    refine awp_if false rfl (by first | (simp only [aeval_tmp, look, ↓reduceIte, Nat.reduceEqDiff]; try rfl) | rfl) (fun h => absurd h (by decide)) (fun _ => ?_)
    have hal1 : h0.length = 8 := by rw [← hq]; exact absorb_length _ _
    have hnl : SL H4 (Value.slice none 0 0) ((cs.drop (64 * (cs.length / 64))).map U8) := .inl ⟨rfl, by rw [show cs.length / 64 = q by omega]; exact hnil⟩
    have hX2 := stx.1 h0 (Value.slice none 0 0) m hal1
    have hZ := stx.1 (zw 8) (.slice none 0 0) 0 hz8
    have hcv := stx_cellv h0 (Value.slice none 0 0) m hnl.cellv'
    have bF := AH.cells_own a5
    have l1 := got_lt a5
    have l2 := got_lt a4
    have hFl' := hal1
    iterate 3 ((repeat first | refine Qo ?_ | refine Qn ?_); (first | refine awp_exit ?_ | refine Qp (by kernel_rfl) ?_); simp -implicitDefEqProofs (disch := (try simp only [sl]); try omega) only [sm,QJ,Qj,Qi,Qq,QC,Qz,bd,QF,look,aput,Qm,QB,Qf,Qc,QA,ty,↓reduceIte,Nat.reduceEqDiff,Nat.reduceAdd,Nat.reduceSub,Nat.reduceMul,Int.reduceLT,Int.reduceLE,Int.reduceNeg,Int.reduceToNat,reduceCtorEq,Nat.reduceBEq,Nat.reduceBNe,Qk,Qe,Value.cells,am,mm,keep, stx, lw, hal, hFl', bF, a5, a4, hX2, hZ, hcv])
    first | refine awp_ret ?_ | skip
    show ∃ v, aresults Try.prog Try.f49 _ _ = some v ∧ _
    rw [aresults_1 (r := .cell 4 93) (by kernel_rfl)]
    simp -implicitDefEqProofs (disch := (try simp only [sl]); try omega) only [aresult, Option.some.injEq, exists_eq_left', sm,Qj,Qi,Qq,QC,Qz,bd,QF,look,aput,QB,Qf,QA,ty,↓reduceIte,Nat.reduceEqDiff,Nat.reduceAdd,Nat.reduceSub,Nat.reduceMul,Int.reduceLT,Int.reduceLE,Int.reduceNeg,Int.reduceToNat,reduceCtorEq,Nat.reduceBEq,Nat.reduceBNe,Qk,Qe,Value.cells,am,mm,keep, stx, lw, hal]
    exact ⟨⟨h0, (Value.slice none 0 0), by rw [hm], hal1, (hnl.setn _ (fun _ _ _ h => by cases h)).setn _ (fun _ _ _ h => by cases h), fun _ => by rw [show cs.length / 64 = q by omega]; exact hq.symm, fun _ _ _ _ h => by cases h⟩, Ext.set (Ext.set e4 _ (Nat.le_refl _)) _ (by omega)⟩
  · have hl0 : ((cs.drop (64 * q)).map U8).length = cs.length - 64 * q := by rw [List.length_map, List.length_drop]
    rw [hl0] at hs4
    subst hs4
    rw [← hq] at a5
    generalize hl0' : cs.length - 64 * q = l0 at *
    repeat first | refine Qo ?_ | refine Qn ?_
    refine awp_forK [2, 4] (fun i : Nat × AH × Nat => [(5, .slice (some ⟨g, 64 * i.1, none⟩) (l0 - 64 * i.1) i.2.2)]) (fun i : Nat × AH × Nat => i.2.1) (fun i : Nat × AH × Nat => 64 * i.1 ≤ l0 ∧ Ext H i.2.1 ∧ i.2.1[H.length]? = some (.own (stX (absorb cs (q + i.1)) r m)) ∧ i.2.1[H.length + 1]? = some (.own (stX (zw 8) (.slice none 0 0) 0)) ∧ i.2.1[g]? = some (.own ((cs.drop (64 * q)).map U8))) (fun i : Nat × AH × Nat => l0 - 64 * i.1) ((0, H4, 1)) (⟨by omega, e4, a5, a4, hg⟩) (by repeat first | exact Forgets.nil | refine Forgets.cons (by first | (simp only [look, ↓reduceIte, Nat.reduceEqDiff]; done) | (simp only [look, ↓reduceIte, Nat.reduceEqDiff]; rfl) | simp [look]) ?_) rfl ?_
    rintro ⟨k, H5, ec⟩ ⟨hk, x5, w5, z5, g5⟩
    simp only [] at hk x5 w5 z5 g5 ⊢
    have hkl := absorb_length cs (q + k)
    have c5 := AH.cells_own w5
    have d5 := AH.cells_own g5
    have hdl : (cs.drop (64 * q)).length = l0 := by rw [List.length_drop]; exact hl0'
    try simp -implicitDefEqProofs (disch := (try simp only [sl]); try omega) only [sm,QJ,Qj,Qi,Qq,QC,Qz,bd,QF,look,aput,Qm,QB,Qf,Qc,QA,ty,↓reduceIte,Nat.reduceEqDiff,Nat.reduceAdd,Nat.reduceSub,Nat.reduceMul,Int.reduceLT,Int.reduceLE,Int.reduceNeg,Int.reduceToNat,reduceCtorEq,Nat.reduceBEq,Nat.reduceBNe,Qk,Qe,Value.cells,am,mm,keep, stx, lw, hal]
    iterate 1 ((repeat first | refine Qo ?_ | refine Qn ?_); (first | refine Qp (by kernel_rfl) ?_); simp -implicitDefEqProofs (disch := (try simp only [sl]); try omega) only [sm,QJ,Qj,Qi,Qq,QC,bd,look,aput,QB,Qf,QI,abin,anil,ty,↓reduceIte,Nat.reduceEqDiff,Nat.reduceAdd,Nat.reduceSub,Nat.reduceMul,Int.reduceLT,Int.reduceLE,Int.reduceNeg,Int.reduceToNat,reduceCtorEq,Nat.reduceBEq,Nat.reduceBNe,Qk,Qe,Value.cells,am,mm,keep, stx, lw, hal])
    repeat first | refine Qo ?_ | refine Qn ?_
    refine awp_if _ rfl (by simp only [aeval_tmp, look, ↓reduceIte, Nat.reduceEqDiff]; exact rfl) ?_ ?_
    · intro hge
      try simp only [ge_iff_le, gt_iff_lt, decide_eq_true_eq, decide_eq_false_iff_not, Nat.not_lt, Int.not_lt, Nat.not_le, Int.not_le, Bool.and_eq_true, Bool.or_eq_true, Bool.or_eq_false_iff, bne_iff_ne, ne_eq, beq_iff_eq, bne_eq_false_iff_eq, beq_eq_false_iff_ne, Bool.not_eq_true, Bool.not_eq_false, Bool.not_eq_eq_eq_not, Bool.not_true, Bool.not_false, Nat.not_le, Int.ofNat_lt, Int.ofNat_le, Int.natCast_inj] at hge
      have hb : absorb cs (q + (k + 1)) = blockW (absorb cs (q + k)) (((cs.drop (64 * q)).drop (64 * k)).take 64) := by
        rw [show q + (k + 1) = (q + k) + 1 by omega, absorb, List.drop_drop, show 64 * q + 64 * k = 64 * (q + k) by omega]
      iterate 2 ((repeat first | refine Qo ?_ | refine Qn ?_); (first | refine awp_skip ?_ | refine awp_region_drawC (id := 6) [(0, []), (1, []), (2, []), (3, []), (4, []), (5, []), (6, [])] mixed (by kernel_rfl) ?_); simp -implicitDefEqProofs (disch := (try simp only [sl]); try omega) only [sm,aSel,Qu,Qv,Qw,Qx,Qy,Qj,Qi,Qq,QC,Qz,bd,QF,look,aput,Qm,QB,Qf,Qc,QA,Qr,aslice3,asl3,loN,hiN,ty,↓reduceIte,Nat.reduceEqDiff,Nat.reduceAdd,Nat.reduceSub,Nat.reduceMul,Int.reduceLT,Int.reduceLE,Int.reduceNeg,Int.reduceToNat,reduceCtorEq,Nat.reduceBEq,Nat.reduceBNe,Qk,Qe,Value.cells,am,mm,keep, stx, lw, hal, c5, hkl])
      refine ACalls.mono (sblock_calls (absorb cs (q + k)) _ (((cs.drop (64 * q)).drop (64 * k)).take 64) H5 hkl (SL.part (o := 64 * k) 64 d5 (by omega)) (by rw [List.length_take, List.length_drop]; omega)) ?_
      rintro _ H6 ⟨rfl, e6⟩
      rw [← hb]
      have hkl' := absorb_length cs (q + (k + 1))
      generalize hkE : absorb cs (q + (k + 1)) = hk1 at *
      have w6 := e6 _ _ w5
      have l6 := got_lt w6
      try simp -implicitDefEqProofs (disch := (try simp only [sl]); try omega) only [sm,aSel,Qu,Qv,Qw,Qx,Qy,Qj,Qi,Qq,QC,Qz,bd,QF,look,aput,Qm,QB,Qf,Qc,QA,Qr,aslice3,asl3,loN,hiN,ty,↓reduceIte,Nat.reduceEqDiff,Nat.reduceAdd,Nat.reduceSub,Nat.reduceMul,Int.reduceLT,Int.reduceLE,Int.reduceNeg,Int.reduceToNat,reduceCtorEq,Nat.reduceBEq,Nat.reduceBNe,Qk,Qe,Value.cells,am,mm,keep, stx, lw, hal, w6, hkl, hkl']
      have z6 := e6 _ _ z5
      have g6 := e6 _ _ g5
      have gl := got_lt a3
      have x7 : Ext H (H6.set H.length (.own (stX hk1 r m))) := Ext.set (x5.trans e6) _ (Nat.le_refl _)
      have w7 := gset H6 H.length (.own (stX hk1 r m)) l6
      have z7 : (H6.set H.length (.own (stX hk1 r m)))[H.length + 1]? = some (.own (stX (zw 8) (.slice none 0 0) 0)) := (gsetn H6 H.length (H.length + 1) _ (by omega)).trans z6
      have g7 : (H6.set H.length (.own (stX hk1 r m)))[g]? = some (.own ((cs.drop (64 * q)).map U8)) := (gsetn H6 H.length g _ (by omega)).trans g6
      generalize H6.set H.length (.own (stX hk1 r m)) = H7 at *
      have ho : 64 * k + 64 = 64 * (k + 1) := by omega
      have hn' : l0 - 64 * k - 64 = l0 - 64 * (k + 1) := by omega
      by_cases h64 : 64 < l0 - 64 * k
      · -- R7
        iterate 1 ((repeat first | refine Qo ?_ | refine Qn ?_); (first | refine Qp (by kernel_rfl) ?_); simp -implicitDefEqProofs (disch := (try simp only [sl]); try omega) only [sm,QJ,Qj,Qi,Qq,QC,bd,look,aput,QB,Qf,Qr,aslice3,asl3,loN,hiN,ty,↓reduceIte,Nat.reduceEqDiff,Nat.reduceAdd,Nat.reduceSub,Nat.reduceMul,Int.reduceLT,Int.reduceLE,Int.reduceNeg,Int.reduceToNat,reduceCtorEq,Nat.reduceBEq,Nat.reduceBNe,Qk,Qe,Value.cells,am,mm,keep, stx, lw, hal, ho, hn'])
        rw [← hkE] at w7
        refine ⟨(k + 1, H7, if ec = 1 then ec else 0), ⟨by simp only []; omega, x7, w7, z7, g7⟩, (by repeat first | exact Forgets.nil | refine Forgets.cons (by first | (simp only [look, ↓reduceIte, Nat.reduceEqDiff]; done) | (simp only [look, ↓reduceIte, Nat.reduceEqDiff]; rfl) | simp [look]) ?_), ?_⟩
        first | omega | exact ⟨rfl, by omega⟩ | exact ⟨rfl, by simp only []; omega⟩ | (simp only []; omega)
      · have h65 : l0 - 64 * k = 64 := by omega
        have h66 : l0 - 64 * (k + 1) = 0 := by omega
        iterate 1 ((repeat first | refine Qo ?_ | refine Qn ?_); (first | refine Qp (by kernel_rfl) ?_); simp -implicitDefEqProofs (disch := (try simp only [sl]); try omega) only [sm,QJ,Qj,Qi,Qq,QC,bd,look,aput,QB,Qf,Qr,aslice3,asl3,loN,hiN,ty,↓reduceIte,Nat.reduceEqDiff,Nat.reduceAdd,Nat.reduceSub,Nat.reduceMul,Int.reduceLT,Int.reduceLE,Int.reduceNeg,Int.reduceToNat,reduceCtorEq,Nat.reduceBEq,Nat.reduceBNe,Qk,Qe,Value.cells,am,mm,keep, stx, lw, hal, ho, hn', h65])
        rw [← hkE] at w7
        refine ⟨(k + 1, H7, 0), ⟨by simp only []; omega, x7, w7, z7, g7⟩, (by repeat first | exact Forgets.nil | refine Forgets.cons (by first | (simp only [look, ↓reduceIte, Nat.reduceEqDiff]; done) | (simp only [look, ↓reduceIte, Nat.reduceEqDiff]; rfl) | simp [look, h66]) ?_), ?_⟩
        first | omega | exact ⟨rfl, by omega⟩ | exact ⟨rfl, by simp only []; omega⟩ | (simp only []; omega)
    intro hlt
    try simp only [ge_iff_le, gt_iff_lt, decide_eq_true_eq, decide_eq_false_iff_not, Nat.not_lt, Int.not_lt, Nat.not_le, Int.not_le, Bool.and_eq_true, Bool.or_eq_true, Bool.or_eq_false_iff, bne_iff_ne, ne_eq, beq_iff_eq, bne_eq_false_iff_eq, beq_eq_false_iff_ne, Bool.not_eq_true, Bool.not_eq_false, Bool.not_eq_eq_eq_not, Bool.not_true, Bool.not_false, Nat.not_le, Int.ofNat_lt, Int.ofNat_le, Int.natCast_inj] at hlt
    have hqk : cs.length / 64 = q + k := by omega
    have hsl : SL H5 (.slice (some ⟨g, 64 * k, none⟩) (l0 - 64 * k) ec) ((cs.drop (64 * (cs.length / 64))).map U8) := by
      rw [hqk, show 64 * (q + k) = 64 * q + 64 * k by omega, ← List.drop_drop]
      exact SL.tail (o := 64 * k) _ d5 (by omega)
    have hX2 := stx.1 (absorb cs (q + k)) (Value.slice (some ⟨g, 64 * k, none⟩) (l0 - 64 * k) ec) m (absorb_length _ _)
    have hZ := stx.1 (zw 8) (.slice none 0 0) 0 hz8
    have hcv := stx_cellv (absorb cs (q + k)) (Value.slice (some ⟨g, 64 * k, none⟩) (l0 - 64 * k) ec) m hsl.cellv'
    have bF := AH.cells_own w5
    have l1 := got_lt w5
    have l2 := got_lt z5
    have hFl' := absorb_length cs (q + k)
    iterate 3 ((repeat first | refine Qo ?_ | refine Qn ?_); (first | refine awp_exit ?_ | refine Qp (by kernel_rfl) ?_); simp -implicitDefEqProofs (disch := (try simp only [sl]); try omega) only [sm,QJ,Qj,Qi,Qq,QC,Qz,bd,QF,look,aput,Qm,QB,Qf,Qc,QA,ty,↓reduceIte,Nat.reduceEqDiff,Nat.reduceAdd,Nat.reduceSub,Nat.reduceMul,Int.reduceLT,Int.reduceLE,Int.reduceNeg,Int.reduceToNat,reduceCtorEq,Nat.reduceBEq,Nat.reduceBNe,Qk,Qe,Value.cells,am,mm,keep, stx, lw, hal, hFl', bF, w5, z5, hX2, hZ, hcv])
    first | refine awp_ret ?_ | skip
    show ∃ v, aresults Try.prog Try.f49 _ _ = some v ∧ _
    rw [aresults_1 (r := .cell 4 93) (by kernel_rfl)]
    simp -implicitDefEqProofs (disch := (try simp only [sl]); try omega) only [aresult, Option.some.injEq, exists_eq_left', sm,Qj,Qi,Qq,QC,Qz,bd,QF,look,aput,QB,Qf,QA,ty,↓reduceIte,Nat.reduceEqDiff,Nat.reduceAdd,Nat.reduceSub,Nat.reduceMul,Int.reduceLT,Int.reduceLE,Int.reduceNeg,Int.reduceToNat,reduceCtorEq,Nat.reduceBEq,Nat.reduceBNe,Qk,Qe,Value.cells,am,mm,keep, stx, lw, hal]
    exact ⟨⟨(absorb cs (q + k)), (Value.slice (some ⟨g, 64 * k, none⟩) (l0 - 64 * k) ec), by rw [hm], (absorb_length _ _), (hsl.setn _ (fun _ _ _ h => by cases h; omega)).setn _ (fun _ _ _ h => by cases h; omega), fun _ => by rw [hqk], fun _ _ _ _ h => by cases h; have := e2.length; omega⟩, Ext.set (Ext.set x5 _ (Nat.le_refl _)) _ (by omega)⟩
end Go.Proofs.Ytpiaohajbbdpdaa
