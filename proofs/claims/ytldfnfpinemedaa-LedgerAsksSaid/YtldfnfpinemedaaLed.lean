/- ledger: what the document says of runs; whether runs are the same. -/
import Derived.Test.YtldfnfpinemedaaLec
namespace Go.Proofs.Ytldfnfpinemedaa
open Go Go.RowKit
--hide
set_option linter.unusedSimpArgs false
set_option linter.unusedVariables false
set_option maxRecDepth 4000
theorem kin_refrun {T : Nat} {r : Rn} (hT : T = 83) (h : okR r) (he : r.1 < 4294967296) : KIn Try.prog 8 T (ruc r) := by
  subst hT
  have hu : Try.prog.underlying 83 = _ := (show Try.prog.underlying 83 = some (.struct #[{ name := "Epoch", type := 27, offset := 0, embedded := false, tag := "", pkgPath := "", byteOffset := 0 }, { name := "From", type := 3, offset := 1, embedded := false, tag := "", pkgPath := "", byteOffset := 8 }, { name := "Many", type := 3, offset := 2, embedded := false, tag := "", pkgPath := "", byteOffset := 16 }]) by kernel_rfl)
  have c1 : Try.prog.cellsOf 27 = 1 := by kernel_rfl
  have c2 : Try.prog.cellsOf 3 = 1 := by kernel_rfl
  have hc : Try.prog.cellsOf 83 = 3 := by kernel_rfl
  have d0 : ((ruc r).drop 0).take 1 = [.int .u32 r.1] := rfl
  have d1 : ((ruc r).drop 1).take 1 = [.int .i64 r.2.1] := rfl
  have d2 : ((ruc r).drop 2).take 1 = [.int .i64 r.2.2] := rfl
  have h' : 1 ≤ r.1 ∧ 0 ≤ r.2.1 ∧ 1 ≤ r.2.2 ∧ r.2.1 + r.2.2 ≤ 65536 := h
  unfold KIn
  simp only [hu, hc, ruc_length r, true_and]
  refine ⟨by kernel_rfl, ?_, fun f hf => ?_⟩
  · simp only [List.map_cons, List.map_nil, c1, c2, d0, d1, d2, List.flatten_cons, List.flatten_nil, List.append_nil]; rfl
  · simp only [List.mem_cons, List.not_mem_nil, or_false] at hf
    rcases hf with rfl | rfl | rfl
    · simp only [c1, d0]; exact kin_int (d := 6) (by kernel_rfl) (wfu _ (by omega) (by omega))
    · simp only [c2, d1]; exact kin_int (d := 6) (by kernel_rfl) (wfi _ (by omega) (by omega))
    · simp only [c2, d2]; exact kin_int (d := 6) (by kernel_rfl) (wfi _ (by omega) (by omega))
theorem aeq_refrun {r : Rn} (h : okR r) (he : r.1 < 4294967296) : aeqAgg Try.prog 83 (ruc r).toArray (ruc r).toArray = some true :=
  aeq_same (kin_refrun rfl h he) (by kernel_rfl) (by kernel_rfl) (by kernel_rfl)
/-- Elements put behind the first elements of an owned block. -/
theorem DG.appG {α : Type} {P : Program} {f : α → List Value} {H : AH} {t tx s bytes b : Nat} {w v : Value} {l r : List α} (he : elemT P t = some (s, bytes)) (ht : sliceT P tx = true) (h0 : 0 < s) (hf : ∀ a ∈ r, (f a).length = s) (hv : ((r.map f).flatten).all cellv = true) (h : DG f s b H w l) (hr : SLn H v r.length (r.map f).flatten)
    (hb : (l.length + r.length) * bytes ≤ 140737488355328) (h63 : l.length + r.length ≤ 9223372036854775807) (hbl : b ≤ H.length) :
    ∃ w' H', aappend P H t tx w v = some (w', H') ∧ DG f s b H' w' (l ++ r) ∧ Rest w H H' := by
  have hl := flatS_length s f r hf
  have hsrc : asrcZ P H t tx v s bytes = some ((r.map f).flatten, r.length) := asrc_slnR ht hr hl h0 hv
  have hrb : r.length * bytes ≤ (l.length + r.length) * bytes := Nat.mul_le_mul_right _ (by omega)
  unfold aappend
  simp only [he, hsrc]
  by_cases hr0 : r.length = 0
  · have hrn := List.eq_nil_of_length_eq_zero hr0
    subst hrn
    rw [List.append_nil]
    rcases h with ⟨rfl, rfl⟩ | ⟨g, C, rfl, h1, h2, h3, h4⟩
    · exact ⟨_, _, by simp, .inl ⟨rfl, rfl⟩, fun p y _ hy => hy⟩
    · exact ⟨_, _, by simp, .inr ⟨g, C, rfl, h1, h2, h3, h4⟩, fun p y _ hy => hy⟩
  · rcases h with ⟨rfl, rfl⟩ | ⟨g, C, rfl, h1, h2, h3, h4⟩
    · refine ⟨.slice (some ⟨H.length, 0, Option.none⟩) r.length s, H ++ [.own (r.map f).flatten], ?_, .inr ⟨H.length, _, by simp, gpush _ _, by simp [hl], ?_, hbl⟩, Rest.of_ext (Ext.push _ _)⟩
      · simp only [if_neg hr0]
        rw [if_pos ⟨by omega, by simpa using h63⟩]
      · rw [List.nil_append, ← hl, List.take_length]
    · have hg := got_lt h1
      have hdl : (H.set g ABlk.dead).length = H.length := List.length_set
      refine ⟨.slice (some ⟨H.length, 0, Option.none⟩) (l.length + r.length) s, H.set g .dead ++ [.own (C.take (l.length * s) ++ (r.map f).flatten)], ?_, .inr ⟨H.length, C.take (l.length * s) ++ (r.map f).flatten, by rw [List.length_append], ?_, ?_, ?_, hbl⟩, fun p y hp hy => Ext.push _ _ _ _ ?_⟩
      · simp only [if_neg hr0, h1]
        rw [if_pos ⟨trivial, by omega, by omega, hb, h63⟩, List.drop_zero]
      · rw [← hdl]; exact gpush _ _
      · rw [List.length_append, List.length_append, List.length_take, hl, Nat.add_mul]; omega
      · rw [List.map_append, List.flatten_append, ← h3, List.take_of_length_le]
        rw [List.length_append, List.length_append, List.length_take, hl, Nat.add_mul]; omega
      · rw [List.getElem?_set_ne (fun e => hp 0 l.length s (by rw [e]))]; exact hy
def bndR (k : Nat) (p : Rn) : Prop := 0 ≤ p.2.1 ∧ p.2.1 < 65536 ∧ 1 ≤ p.2.2 ∧ p.2.2 ≤ (k : Int)
theorem step_bnd {k : Nat} {out : List Rn} {u : Us} (h : ∀ p ∈ out, bndR k p) (hu : okU u) : ∀ p ∈ stepRun out u, bndR (k + 1) p := by
  have hx : bndR (k + 1) (x1R u) := ⟨hu.2.1, hu.2.2, Int.le_refl _, by show (1 : Int) ≤ ((k + 1 : Nat) : Int); omega⟩
  have up : ∀ p, bndR k p → bndR (k + 1) p := fun p hp => ⟨hp.1, hp.2.1, hp.2.2.1, by have := hp.2.2.2; omega⟩
  rcases List.eq_nil_or_concat out with rfl | ⟨P, q, rfl⟩
  · intro p hp
    have : p = x1R u := by simpa [stepRun] using hp
    rw [this]; exact hx
  · rw [List.concat_eq_append] at *
    rw [step_snoc]
    intro p hp
    split at hp
    · rcases List.mem_append.1 hp with hp | hp
      · exact up p (h p (List.mem_append_left _ hp))
      · have hq := h q (by simp)
        rw [List.mem_singleton.1 hp]
        exact ⟨hq.1, hq.2.1, by have := hq.2.2.1; show 1 ≤ q.2.2 + 1; omega, by have := hq.2.2.2; show q.2.2 + 1 ≤ ((k + 1 : Nat) : Int); omega⟩
    · rcases List.mem_append.1 hp with hp | hp
      · exact up p (h p hp)
      · rw [List.mem_singleton.1 hp]; exact hx
theorem runs_snoc (l : List Us) (u : Us) : runsOf (l ++ [u]) = stepRun (runsOf l) u := by simp [runsOf]
theorem runs_bnd (l : List Us) (hr : ∀ u ∈ l, okU u) : ∀ i, i ≤ l.length → (∀ p ∈ runsOf (l.take i), bndR i p) ∧ (runsOf (l.take i)).length ≤ i
  | 0, _ => ⟨fun p hp => absurd hp (by simp [runsOf]), by simp [runsOf]⟩
  | i + 1, hi => by
    obtain ⟨h1, h2⟩ := runs_bnd l hr i (by omega)
    rw [List.take_succ_eq_append_getElem (by omega), runs_snoc]
    refine ⟨step_bnd h1 (hr _ (List.getElem_mem _)), ?_⟩
    have : ∀ (out : List Rn) (u : Us), (stepRun out u).length ≤ out.length + 1 := fun out u => by
      rcases List.eq_nil_or_concat out with rfl | ⟨P, q, rfl⟩
      · simp [stepRun]
      · rw [List.concat_eq_append, step_snoc]
        split <;> simp
    exact Nat.le_trans (this _ _) (by omega)
set_option maxHeartbeats 16000000 in
theorem refruns_calls (v : Value) (l : List Us) (H : AH) (hv : SLn H v l.length (flU l)) (hm : l.length ≤ 900) (hr : ∀ u ∈ l, okU u) :
    ACalls Try.prog 18 #[v] H fun w H' => DG ruc 3 H.length H' w (runsOf l) ∧ Ext H H' := by
  have lv := alen_slnU (P := Try.prog) (T := 22) (by simp only [ty]) hv
  have hel : elemT Try.prog 40 = some (3, 24) := by simp only [ty]
  have hsl : sliceT Try.prog 40 = true := by simp only [ty]
  have fo_ : True := trivial
  have N_ := Now.start H
  have f_ := N_.has
  simp only [Has] at f_
  refine acalls_of_body Try.func18 rfl Try.ntmps18 (by simp) ?_
  simp only [argsT, Nat.reduceAdd]
  iterate 3 ((repeat first | refine Qo ?_ | refine Qn ?_); (first | (refine QK (by kernel_rfl) ?_; intro K_ hK_; simp -implicitDefEqProofs (disch := (try simp only [sl]); try omega) only [sm,QJ,Qj,Qi,Qq,QC,bd,look,aput,ty,↓reduceIte,Nat.reduceEqDiff,Nat.reduceAdd,Nat.reduceSub,Nat.reduceMul,Int.reduceLT,Int.reduceLE,Int.reduceNeg,Int.reduceToNat,reduceCtorEq,Nat.reduceBEq,Nat.reduceBNe,Qk,Qe,Value.cells,am,mm,keep, f_, fo_, aint, lv]; refine hK_ _ _ ?_; clear hK_ K_; repeat first | refine QL ?_ | refine QM ?_)))
  repeat first | refine Qo ?_ | refine Qn ?_
  refine awp_forK [0] (fun x : Nat × Value × AH => [(4, I64 x.1), (3, x.2.1)]) (fun x : Nat × Value × AH => x.2.2) (fun x : Nat × Value × AH => x.1 ≤ l.length ∧ DG ruc 3 H.length x.2.2 x.2.1 (runsOf (l.take x.1)) ∧ Ext H x.2.2) (fun x : Nat × Value × AH => l.length - x.1) ((0, .slice none 0 0, H)) (⟨Nat.zero_le _, DG.none _ _ _ _, Ext.refl _⟩) (by repeat first | exact Forgets.nil | refine Forgets.cons (by first | (simp only [look, ↓reduceIte, Nat.reduceEqDiff]; done) | (simp only [look, ↓reduceIte, Nat.reduceEqDiff]; rfl) | simp [look]) ?_) rfl ?_
  rintro ⟨i, w, H2⟩ ⟨hi, d2, x2⟩
  simp only [] at hi d2 x2 ⊢
  clear f_ N_
  have N_ : Now H H2 [] := ⟨x2, trivial⟩
  have f_ := N_.has
  simp only [Has] at f_
  by_cases hlt : i < l.length
  · obtain ⟨g, o, e, cs, hve, hcs, hcc, hlen⟩ := hv.at (usc_hl l) i hlt
    cases hve
    obtain ⟨hb1, hb2⟩ := runs_bnd l hr i (by omega)
    have hrs : runsOf (l.take (i + 1)) = stepRun (runsOf (l.take i)) l[i] := by rw [List.take_succ_eq_append_getElem hlt, runs_snoc]
    have huo := hr _ (List.getElem_mem hlt)
    have hc0 : cs[o + i * 2]? = some (.int .u32 l[i].1) := by
      have h0 := usc_0 l[i]
      rw [← hcc, List.getElem?_take, if_pos (by decide), List.getElem?_drop, Nat.add_zero] at h0
      exact h0
    have hc1 : cs[o + i * 2 + 1]? = some (.int .i64 l[i].2) := by
      have h0 := usc_1 l[i]
      rw [← hcc, List.getElem?_take, if_pos (by decide), List.getElem?_drop] at h0
      exact h0
    generalize l[i] = u at *
    generalize runsOf (l.take i) = out at *
    have hcs2 := x2.cells hcs
    have hii : IntKind.i64.wrap ((i : Int) + 1) = (i : Int) + 1 := wi64 _ (by omega) (by omega)
    have ld := alen_slnU (P := Try.prog) (T := 40) (by simp only [ty]) (d2.sln (ruc_hl out))
    have hrun : (#[.int .u32 u.1, .int .i64 u.2, .int .i64 1] : Array Value) = (ruc (x1R u)).toArray := rfl
    have xl := ruc_length (x1R u)
    have xc := ruc_cellv (x1R u)
    have hs1 : SLn (H2 ++ [ABlk.own (ruc (x1R u))]) (.slice (some ⟨H2.length, 0, none⟩) 1 3) [x1R u].length (flR [x1R u]) := .inr ⟨H2.length, 0, 3, rfl, .inr ⟨_, AH.cells_own (gpush _ _), by simp [flR, ruc], by simp [flR, ruc]⟩⟩
    obtain ⟨w3, H3, ha3, d3, r3⟩ := DG.appG (P := Try.prog) (t := 40) (tx := 40) (H := H2 ++ [ABlk.own (ruc (x1R u))]) hel hsl (by decide) (ruc_hl [x1R u]) (flR_cellv _) (d2.mono (Ext.push _ _)) hs1 (by simp; omega) (by simp; omega) (by rw [List.length_append]; have := x2.length; omega)
    have x3 : Ext H H3 := fun p z hz => r3 p z (fun o n e k => by have := (d2.lt _ _ _ _ k).2; have := got_lt hz; omega) (Ext.push _ _ _ _ (x2 p z hz))
    have hcsA : ∀ cl, (H2 ++ [ABlk.own cl]).cells g = some cs := fun cl => (Ext.push H2 _).cells hcs2
    have hcs3 := x3.cells hcs
    rcases List.eq_nil_or_concat out with hnil | ⟨P, q, hcat⟩
    · subst hnil
      have hg0 : ¬ ((0 : Int) > 0) := by decide
      rw [List.length_nil] at ld
      have hst : stepRun [] u = [x1R u] := rfl
      rw [hst] at hrs
      iterate 1 ((repeat first | refine Qo ?_ | refine Qn ?_); (first | (refine QK (by kernel_rfl) ?_; intro K_ hK_; simp -implicitDefEqProofs (disch := (try simp only [sl]); try omega) only [sm,QJ,Qj,Qi,Qq,QC,bd,look,aput,QI,abin,anil,ty,↓reduceIte,Nat.reduceEqDiff,Nat.reduceAdd,Nat.reduceSub,Nat.reduceMul,Int.reduceLT,Int.reduceLE,Int.reduceNeg,Int.reduceToNat,reduceCtorEq,Nat.reduceBEq,Nat.reduceBNe,Qk,Qe,Value.cells,am,mm,keep, f_, fo_, aint, lv, ld, hlt, hlt]; refine hK_ _ _ ?_; clear hK_ K_; repeat first | refine QL ?_ | refine QM ?_)))
      repeat first | refine Qo ?_ | refine Qn ?_
      refine awp_if true rfl (by first | (simp only [aeval_tmp, look, ↓reduceIte, Nat.reduceEqDiff]; try rfl) | rfl) (fun _ => ?_) (fun h => absurd h (by decide))
      iterate 3 ((repeat first | refine Qo ?_ | refine Qn ?_); (first | ((first | refine QK (by kernel_rfl) ?_ | refine awp_region_drawK (id := 6) [(0, []), (1, []), (2, []), (3, []), (4, []), (5, []), (6, []), (7, []), (8, []), (9, []), (10, []), (11, []), (12, []), (13, []), (14, []), (15, []), (16, []), (17, []), (18, []), (19, []), (20, []), (21, []), (22, []), (23, []), (24, []), (25, []), (26, []), (27, []), (28, []), (29, []), (30, []), (31, []), (32, []), (33, []), (34, []), (35, []), (36, [])] mixed (by kernel_rfl) ?_); intro K_ hK_; simp -implicitDefEqProofs (disch := (try simp only [sl]); try omega) only [sm,QJ,aSel,Qu,Qv,Qw,Qx,Qy,Qj,Qi,Qq,QC,Qz,bd,QF,look,aput,QI,abin,anil,Qb,Qc,QA,ty,↓reduceIte,Nat.reduceEqDiff,Nat.reduceAdd,Nat.reduceSub,Nat.reduceMul,Int.reduceLT,Int.reduceLE,Int.reduceNeg,Int.reduceToNat,reduceCtorEq,Nat.reduceBEq,Nat.reduceBNe,Qk,Qe,Value.cells,am,mm,keep, f_, fo_, aint, lv, ld, hlt, hg0]; refine hK_ _ _ ?_; clear hK_ K_; repeat first | refine QL ?_ | refine QM ?_) | (refine awp_skip ?_; repeat first | refine QL ?_ | refine QM ?_)))
      repeat first | refine Qo ?_ | refine Qn ?_
      refine awp_if false rfl (by first | (simp only [aeval_tmp, look, ↓reduceIte, Nat.reduceEqDiff]; try rfl) | rfl) (fun h => absurd h (by decide)) (fun _ => ?_)
      iterate 2 ((repeat first | refine Qo ?_ | refine Qn ?_); (first | ((first | refine awp_region_drawK (id := 8) [(0, []), (1, []), (2, []), (3, []), (4, []), (5, []), (6, []), (7, []), (8, []), (9, []), (10, []), (11, []), (12, []), (13, []), (14, [])] mixed (by kernel_rfl) ?_ | refine QK (by kernel_rfl) ?_); intro K_ hK_; simp -implicitDefEqProofs (disch := (try simp only [sl]); try omega) only [sm,QJ,aSel,Qu,Qv,Qw,Qx,Qy,Qj,Qi,Qq,QC,Qz,bd,QF,look,aput,Qm,QI,abin,anil,Qb,Qc,QA,ty,↓reduceIte,Nat.reduceEqDiff,Nat.reduceAdd,Nat.reduceSub,Nat.reduceMul,Int.reduceLT,Int.reduceLE,Int.reduceNeg,Int.reduceToNat,reduceCtorEq,Nat.reduceBEq,Nat.reduceBNe,Qk,Qe,Value.cells,am,mm,keep, aint, lv, ld, hlt, hcs2, hlen, hc0, hc1, hcsA, hcs3, hrun, xl, xc, bd, bda, ha3, hii]; refine hK_ _ _ ?_; clear hK_ K_; repeat first | refine QL ?_ | refine QM ?_)))
      refine ⟨(i + 1, w3, H3), ⟨by simp only []; omega, by simp only [hrs]; exact d3, x3⟩, (by repeat first | exact Forgets.nil | refine Forgets.cons (by first | (simp only [look, ↓reduceIte, Nat.reduceEqDiff]; done) | (simp only [look, ↓reduceIte, Nat.reduceEqDiff]; rfl) | simp [look, hii]) ?_), ?_⟩
      first | omega | exact ⟨rfl, by omega⟩ | exact ⟨rfl, by simp only []; omega⟩ | (simp only []; omega)
    · rw [List.concat_eq_append] at hcat
      subst hcat
      have hst := step_snoc P q u
      rw [← hrs] at hst
      have hPl : (P ++ [q]).length = P.length + 1 := by simp
      have hqb := hb1 q (by simp)
      have hqb' : 0 ≤ q.2.1 ∧ q.2.1 < 65536 ∧ 1 ≤ q.2.2 ∧ q.2.2 ≤ (i : Int) := hqb
      obtain ⟨gw, C, rfl, hgw, hCl, hCt, hbw⟩ := d2.at (by rw [hPl]; omega)
      obtain ⟨m1, m2, m3⟩ := at_mid (n := (P ++ [q]).length) (A := P) (x := q) (B := []) rfl hCt hCl
      have m0 : C[P.length * 3]? = some (.int .u32 q.1) := by
        have h0 := ruc_0 q
        rw [← m1, List.getElem?_take, if_pos (by decide), List.getElem?_drop, Nat.add_zero] at h0
        exact h0
      have m1' : C[P.length * 3 + 1]? = some (.int .i64 q.2.1) := by
        have h0 := ruc_1 q
        rw [← m1, List.getElem?_take, if_pos (by decide), List.getElem?_drop] at h0
        exact h0
      have cw := AH.cells_own hgw
      have glw := got_lt hgw
      have hg0 : ((P.length + 1 : Nat) : Int) > 0 := by omega
      have hw1 : IntKind.i64.wrap (((P.length + 1 : Nat) : Int) - 1) = ((P.length : Nat) : Int) := by rw [wi64 _ (by omega) (by omega)]; omega
      have hw2 : IntKind.i64.wrap (q.2.1 + q.2.2) = endR q := wi64 _ (by omega) (by omega)
      have hPn : P.length < P.length + 1 := by omega
      rw [hPl] at ld hCl hCt ⊢
      iterate 1 ((repeat first | refine Qo ?_ | refine Qn ?_); (first | (refine QK (by kernel_rfl) ?_; intro K_ hK_; simp -implicitDefEqProofs (disch := (try simp only [sl]); try omega) only [sm,QJ,Qj,Qi,Qq,QC,bd,look,aput,QI,abin,anil,ty,↓reduceIte,Nat.reduceEqDiff,Nat.reduceAdd,Nat.reduceSub,Nat.reduceMul,Int.reduceLT,Int.reduceLE,Int.reduceNeg,Int.reduceToNat,reduceCtorEq,Nat.reduceBEq,Nat.reduceBNe,Qk,Qe,Value.cells,am,mm,keep, f_, fo_, aint, lv, ld, hlt, hlt]; refine hK_ _ _ ?_; clear hK_ K_; repeat first | refine QL ?_ | refine QM ?_)))
      repeat first | refine Qo ?_ | refine Qn ?_
      refine awp_if true rfl (by first | (simp only [aeval_tmp, look, ↓reduceIte, Nat.reduceEqDiff]; try rfl) | rfl) (fun _ => ?_) (fun h => absurd h (by decide))
      iterate 2 ((repeat first | refine Qo ?_ | refine Qn ?_); (first | (refine QK (by kernel_rfl) ?_; intro K_ hK_; simp -implicitDefEqProofs (disch := (try simp only [sl]); try omega) only [sm,QJ,Qj,Qi,Qq,QC,bd,look,aput,ty,↓reduceIte,Nat.reduceEqDiff,Nat.reduceAdd,Nat.reduceSub,Nat.reduceMul,Int.reduceLT,Int.reduceLE,Int.reduceNeg,Int.reduceToNat,reduceCtorEq,Nat.reduceBEq,Nat.reduceBNe,Qk,Qe,Value.cells,am,mm,keep, f_, fo_, aint, lv, ld, hlt]; refine hK_ _ _ ?_; clear hK_ K_; repeat first | refine QL ?_ | refine QM ?_) | (refine awp_skip ?_; repeat first | refine QL ?_ | refine QM ?_)))
      have hxA : i < l.length := hlt
      have elsewhere : ¬ joinR q (x1R u) → runsOf (l.take (i + 1)) = P ++ [q] ++ [x1R u] := fun k => by rw [hst, if_neg k]
      rw [hPl] at ha3
      by_cases k1 : q.1 = u.1
      · have e1 : (q.1 == u.1) = true := by rw [beq_iff_eq]; exact k1
        by_cases k2 : endR q = u.2
        · have e2 : (endR q == u.2) = true := by rw [beq_iff_eq]; exact k2
          have hst1 : runsOf (l.take (i + 1)) = P ++ [(q.1, q.2.1, q.2.2 + 1)] := by rw [hst, if_pos ⟨k1, k2⟩]
          have hw3 : IntKind.i64.wrap (q.2.2 + 1) = q.2.2 + 1 := wi64 _ (by omega) (by omega)
          have dm := DG.many (B := []) (by simp) hgw hCl hCt hbw (q.2.2 + 1)
          have xm : Ext H (H2.set gw (.own (C.set (P.length * 3 + 2) (.int .i64 (q.2.2 + 1))))) := x2.set _ hbw
          iterate 1 ((repeat first | refine Qo ?_ | refine Qn ?_); (first | (refine awp_region_drawK (id := 6) [(0, []), (1, []), (2, []), (3, []), (4, []), (5, []), (6, []), (7, []), (8, []), (9, []), (10, []), (11, []), (12, []), (13, []), (14, []), (15, []), (16, []), (17, []), (18, []), (19, []), (20, []), (21, []), (22, []), (23, []), (24, []), (25, []), (26, []), (27, []), (28, []), (29, []), (30, []), (31, []), (32, []), (33, []), (34, []), (35, []), (36, [])] mixed (by kernel_rfl) ?_; intro K_ hK_; simp -implicitDefEqProofs (disch := (try simp only [sl]); try omega) only [sm,aSel,Qu,Qv,Qw,Qx,Qy,Qj,Qi,Qq,QC,Qz,bd,QF,look,aput,QI,abin,anil,Qb,Qc,QA,ty,↓reduceIte,Nat.reduceEqDiff,Nat.reduceAdd,Nat.reduceSub,Nat.reduceMul,Int.reduceLT,Int.reduceLE,Int.reduceNeg,Int.reduceToNat,reduceCtorEq,Nat.reduceBEq,Nat.reduceBNe,Qk,Qe,Value.cells,am,mm,keep, f_, fo_, aint, lv, ld, hlt, hg0, hw1, hw2, hPn, cw, m0, m1', m2, m3, hcs2, hlen, hc0, hc1, e1, e2]; refine hK_ _ _ ?_; clear hK_ K_; repeat first | refine QL ?_ | refine QM ?_)))
          repeat first | refine Qo ?_ | refine Qn ?_
          refine awp_if true rfl (by first | (simp only [aeval_tmp, look, ↓reduceIte, Nat.reduceEqDiff]; try rfl) | rfl) (fun _ => ?_) (fun h => absurd h (by decide))
          iterate 2 ((repeat first | refine Qo ?_ | refine Qn ?_); (first | (refine QK (by kernel_rfl) ?_; intro K_ hK_; simp -implicitDefEqProofs (disch := (try simp only [sl]); try omega) only [sm,QJ,Qj,Qi,Qq,QC,Qz,bd,QF,look,aput,Qm,QI,abin,anil,Qb,Qc,QA,ty,↓reduceIte,Nat.reduceEqDiff,Nat.reduceAdd,Nat.reduceSub,Nat.reduceMul,Int.reduceLT,Int.reduceLE,Int.reduceNeg,Int.reduceToNat,reduceCtorEq,Nat.reduceBEq,Nat.reduceBNe,Qk,Qe,Value.cells,am,mm,keep, f_, fo_, aint, lv, ld, hlt, hg0, hw1, hw2, hPn, cw, m0, m1', m2, m3, hcs2, hlen, hc0, hc1, hw3, hgw, glw, hii]; refine hK_ _ _ ?_; clear hK_ K_; repeat first | refine QL ?_ | refine QM ?_)))
          refine ⟨(i + 1, .slice (some ⟨gw, 0, none⟩) (P.length + 1) 3, H2.set gw (.own (C.set (P.length * 3 + 2) (.int .i64 (q.2.2 + 1))))), ⟨by simp only []; omega, by simp only [hst1]; exact dm, xm⟩, (by repeat first | exact Forgets.nil | refine Forgets.cons (by first | (simp only [look, ↓reduceIte, Nat.reduceEqDiff]; done) | (simp only [look, ↓reduceIte, Nat.reduceEqDiff]; rfl) | simp [look, hii]) ?_), ?_⟩
          first | omega | exact ⟨rfl, by omega⟩ | exact ⟨rfl, by simp only []; omega⟩ | (simp only []; omega)
        · have e2 : (endR q == u.2) = false := by rw [beq_eq_false_iff_ne]; exact k2
          have hst1 := elsewhere (fun k => k2 k.2)
          iterate 1 ((repeat first | refine Qo ?_ | refine Qn ?_); (first | (refine awp_region_drawK (id := 6) [(0, []), (1, []), (2, []), (3, []), (4, []), (5, []), (6, []), (7, []), (8, []), (9, []), (10, []), (11, []), (12, []), (13, []), (14, []), (15, []), (16, []), (17, []), (18, []), (19, []), (20, []), (21, []), (22, []), (23, []), (24, []), (25, []), (26, []), (27, []), (28, []), (29, []), (30, []), (31, []), (32, []), (33, []), (34, []), (35, []), (36, [])] mixed (by kernel_rfl) ?_; intro K_ hK_; simp -implicitDefEqProofs (disch := (try simp only [sl]); try omega) only [sm,aSel,Qu,Qv,Qw,Qx,Qy,Qj,Qi,Qq,QC,Qz,bd,QF,look,aput,QI,abin,anil,Qb,Qc,QA,ty,↓reduceIte,Nat.reduceEqDiff,Nat.reduceAdd,Nat.reduceSub,Nat.reduceMul,Int.reduceLT,Int.reduceLE,Int.reduceNeg,Int.reduceToNat,reduceCtorEq,Nat.reduceBEq,Nat.reduceBNe,Qk,Qe,Value.cells,am,mm,keep, f_, fo_, aint, lv, ld, hlt, hg0, hw1, hw2, hPn, cw, m0, m1', m2, m3, hcs2, hlen, hc0, hc1, e1, e2]; refine hK_ _ _ ?_; clear hK_ K_; repeat first | refine QL ?_ | refine QM ?_)))
          repeat first | refine Qo ?_ | refine Qn ?_
          refine awp_if false rfl (by first | (simp only [aeval_tmp, look, ↓reduceIte, Nat.reduceEqDiff]; try rfl) | rfl) (fun h => absurd h (by decide)) (fun _ => ?_)
          iterate 2 ((repeat first | refine Qo ?_ | refine Qn ?_); (first | ((first | refine awp_region_drawK (id := 8) [(0, []), (1, []), (2, []), (3, []), (4, []), (5, []), (6, []), (7, []), (8, []), (9, []), (10, []), (11, []), (12, []), (13, []), (14, [])] mixed (by kernel_rfl) ?_ | refine QK (by kernel_rfl) ?_); intro K_ hK_; simp -implicitDefEqProofs (disch := (try simp only [sl]); try omega) only [sm,QJ,aSel,Qu,Qv,Qw,Qx,Qy,Qj,Qi,Qq,QC,Qz,bd,QF,look,aput,Qm,QI,abin,anil,Qb,Qc,QA,ty,↓reduceIte,Nat.reduceEqDiff,Nat.reduceAdd,Nat.reduceSub,Nat.reduceMul,Int.reduceLT,Int.reduceLE,Int.reduceNeg,Int.reduceToNat,reduceCtorEq,Nat.reduceBEq,Nat.reduceBNe,Qk,Qe,Value.cells,am,mm,keep, aint, lv, ld, hlt, hcs2, hlen, hc0, hc1, hcsA, hcs3, hrun, xl, xc, bd, bda, ha3, hii]; refine hK_ _ _ ?_; clear hK_ K_; repeat first | refine QL ?_ | refine QM ?_)))
          refine ⟨(i + 1, w3, H3), ⟨by simp only []; omega, by simp only [hst1]; exact d3, x3⟩, (by repeat first | exact Forgets.nil | refine Forgets.cons (by first | (simp only [look, ↓reduceIte, Nat.reduceEqDiff]; done) | (simp only [look, ↓reduceIte, Nat.reduceEqDiff]; rfl) | simp [look, hii]) ?_), ?_⟩
          first | omega | exact ⟨rfl, by omega⟩ | exact ⟨rfl, by simp only []; omega⟩ | (simp only []; omega)
      · have e1 : (q.1 == u.1) = false := by rw [beq_eq_false_iff_ne]; exact k1
        have hst1 := elsewhere (fun k => k1 k.1)
        iterate 1 ((repeat first | refine Qo ?_ | refine Qn ?_); (first | (refine awp_region_drawK (id := 6) [(0, []), (1, []), (2, []), (3, []), (4, []), (5, []), (6, []), (7, []), (8, []), (9, []), (10, []), (11, []), (12, []), (13, []), (14, []), (15, []), (16, []), (17, []), (18, []), (19, []), (20, []), (21, []), (22, []), (23, []), (24, []), (25, []), (26, []), (27, []), (28, []), (29, []), (30, []), (31, []), (32, []), (33, []), (34, []), (35, []), (36, [])] mixed (by kernel_rfl) ?_; intro K_ hK_; simp -implicitDefEqProofs (disch := (try simp only [sl]); try omega) only [sm,aSel,Qu,Qv,Qw,Qx,Qy,Qj,Qi,Qq,QC,Qz,bd,QF,look,aput,QI,abin,anil,Qb,Qc,QA,ty,↓reduceIte,Nat.reduceEqDiff,Nat.reduceAdd,Nat.reduceSub,Nat.reduceMul,Int.reduceLT,Int.reduceLE,Int.reduceNeg,Int.reduceToNat,reduceCtorEq,Nat.reduceBEq,Nat.reduceBNe,Qk,Qe,Value.cells,am,mm,keep, f_, fo_, aint, lv, ld, hlt, hg0, hw1, hw2, hPn, cw, m0, m1', m2, m3, hcs2, hlen, hc0, hc1, e1]; refine hK_ _ _ ?_; clear hK_ K_; repeat first | refine QL ?_ | refine QM ?_)))
        repeat first | refine Qo ?_ | refine Qn ?_
        refine awp_if false rfl (by first | (simp only [aeval_tmp, look, ↓reduceIte, Nat.reduceEqDiff]; try rfl) | rfl) (fun h => absurd h (by decide)) (fun _ => ?_)
        iterate 2 ((repeat first | refine Qo ?_ | refine Qn ?_); (first | ((first | refine awp_region_drawK (id := 8) [(0, []), (1, []), (2, []), (3, []), (4, []), (5, []), (6, []), (7, []), (8, []), (9, []), (10, []), (11, []), (12, []), (13, []), (14, [])] mixed (by kernel_rfl) ?_ | refine QK (by kernel_rfl) ?_); intro K_ hK_; simp -implicitDefEqProofs (disch := (try simp only [sl]); try omega) only [sm,QJ,aSel,Qu,Qv,Qw,Qx,Qy,Qj,Qi,Qq,QC,Qz,bd,QF,look,aput,Qm,QI,abin,anil,Qb,Qc,QA,ty,↓reduceIte,Nat.reduceEqDiff,Nat.reduceAdd,Nat.reduceSub,Nat.reduceMul,Int.reduceLT,Int.reduceLE,Int.reduceNeg,Int.reduceToNat,reduceCtorEq,Nat.reduceBEq,Nat.reduceBNe,Qk,Qe,Value.cells,am,mm,keep, aint, lv, ld, hlt, hcs2, hlen, hc0, hc1, hcsA, hcs3, hrun, xl, xc, bd, bda, ha3, hii]; refine hK_ _ _ ?_; clear hK_ K_; repeat first | refine QL ?_ | refine QM ?_)))
        refine ⟨(i + 1, w3, H3), ⟨by simp only []; omega, by simp only [hst1]; exact d3, x3⟩, (by repeat first | exact Forgets.nil | refine Forgets.cons (by first | (simp only [look, ↓reduceIte, Nat.reduceEqDiff]; done) | (simp only [look, ↓reduceIte, Nat.reduceEqDiff]; rfl) | simp [look, hii]) ?_), ?_⟩
        first | omega | exact ⟨rfl, by omega⟩ | exact ⟨rfl, by simp only []; omega⟩ | (simp only []; omega)
  obtain rfl : i = l.length := by omega
  rw [List.take_length] at d2
  iterate 1 ((repeat first | refine Qo ?_ | refine Qn ?_); (first | (refine QK (by kernel_rfl) ?_; intro K_ hK_; simp -implicitDefEqProofs (disch := (try simp only [sl]); try omega) only [sm,QJ,Qj,Qi,Qq,QC,bd,look,aput,QI,abin,anil,ty,↓reduceIte,Nat.reduceEqDiff,Nat.reduceAdd,Nat.reduceSub,Nat.reduceMul,Int.reduceLT,Int.reduceLE,Int.reduceNeg,Int.reduceToNat,reduceCtorEq,Nat.reduceBEq,Nat.reduceBNe,Qk,Qe,Value.cells,am,mm,keep, f_, fo_, aint, lv, hlt]; refine hK_ _ _ ?_; clear hK_ K_; repeat first | refine QL ?_ | refine QM ?_)))
  repeat first | refine Qo ?_ | refine Qn ?_
  refine awp_if false rfl (by first | (simp only [aeval_tmp, look, ↓reduceIte, Nat.reduceEqDiff]; try rfl) | rfl) (fun h => absurd h (by decide)) (fun _ => ?_)
  iterate 2 ((repeat first | refine Qo ?_ | refine Qn ?_); (first | (refine QK (by kernel_rfl) ?_; intro K_ hK_; simp -implicitDefEqProofs (disch := (try simp only [sl]); try omega) only [sm,QJ,Qj,Qi,Qq,QC,bd,look,aput,ty,↓reduceIte,Nat.reduceEqDiff,Nat.reduceAdd,Nat.reduceSub,Nat.reduceMul,Int.reduceLT,Int.reduceLE,Int.reduceNeg,Int.reduceToNat,reduceCtorEq,Nat.reduceBEq,Nat.reduceBNe,Qk,Qe,Value.cells,am,mm,keep, f_, fo_, aint, lv]; refine hK_ _ _ ?_; clear hK_ K_; repeat first | refine QL ?_ | refine QM ?_) | (refine awp_exit ?_; (repeat first | refine aThen_exit ?_ | refine aIn_out rfl ?_); refine aIn_here ?_; repeat first | refine QL ?_ | refine QM ?_)))
  first | refine awp_ret ?_ | skip
  show ∃ v, aresults Try.prog Try.f18 _ _ = some v ∧ _
  rw [aresults_1 (r := .tmp 2) (by kernel_rfl)]
  simp -implicitDefEqProofs (disch := (try simp only [sl]); try omega) only [aresult, Option.some.injEq, exists_eq_left', sm,Qj,Qi,Qq,QC,Qz,bd,QF,look,aput,QB,Qf,QA,ty,↓reduceIte,Nat.reduceEqDiff,Nat.reduceAdd,Nat.reduceSub,Nat.reduceMul,Int.reduceLT,Int.reduceLE,Int.reduceNeg,Int.reduceToNat,reduceCtorEq,Nat.reduceBEq,Nat.reduceBNe,Qk,Qe,Value.cells,am,mm,keep, f_, fo_, aint, lv]
  exact ⟨d2, x2⟩
set_option maxHeartbeats 8000000 in
theorem lsame_calls (v w : Value) (l : List Rn) (H : AH) (hv : SLn H v l.length (flR l)) (hw : SLn H w l.length (flR l)) (hl : ∀ x ∈ l, okR x) (hr : ∀ x ∈ l, x.1 < 4294967296) (hm : l.length ≤ 1000) :
    ACalls Try.prog 16 #[v, w] H fun r H' => r = .bool true ∧ H' = H := by
  have lv := alen_slnU (P := Try.prog) (T := 38) (by simp only [ty]) hv
  have lw := alen_slnU (P := Try.prog) (T := 40) (by simp only [ty]) hw
  have hnn : ∀ n : Int, (n != n) = false := fun n => by simp
  refine acalls_of_body Try.func16 rfl Try.ntmps16 (by simp) ?_
  simp only [argsT, Nat.reduceAdd]
  iterate 2 ((repeat first | refine Qo ?_ | refine Qn ?_); (first | (refine QK (by kernel_rfl) ?_; intro K_ hK_; simp -implicitDefEqProofs (disch := (try simp only [sl]); try omega) only [sm,QJ,Qj,Qi,Qq,QC,bd,look,aput,QI,abin,anil,ty,↓reduceIte,Nat.reduceEqDiff,Nat.reduceAdd,Nat.reduceSub,Nat.reduceMul,Int.reduceLT,Int.reduceLE,Int.reduceNeg,Int.reduceToNat,reduceCtorEq,Nat.reduceBEq,Nat.reduceBNe,Qk,Qe,Value.cells,am,mm,keep, aint, lv, lw, hnn]; refine hK_ _ _ ?_; clear hK_ K_; repeat first | refine QL ?_ | refine QM ?_)))
  repeat first | refine Qo ?_ | refine Qn ?_
  refine awp_if false rfl (by first | (simp only [aeval_tmp, look, ↓reduceIte, Nat.reduceEqDiff]; try rfl) | rfl) (fun h => absurd h (by decide)) (fun _ => ?_)
  iterate 2 ((repeat first | refine Qo ?_ | refine Qn ?_); (first | (refine QK (by kernel_rfl) ?_; intro K_ hK_; simp -implicitDefEqProofs (disch := (try simp only [sl]); try omega) only [sm,QJ,Qj,Qi,Qq,QC,bd,look,aput,ty,↓reduceIte,Nat.reduceEqDiff,Nat.reduceAdd,Nat.reduceSub,Nat.reduceMul,Int.reduceLT,Int.reduceLE,Int.reduceNeg,Int.reduceToNat,reduceCtorEq,Nat.reduceBEq,Nat.reduceBNe,Qk,Qe,Value.cells,am,mm,keep, aint, lv, lw, hnn]; refine hK_ _ _ ?_; clear hK_ K_; repeat first | refine QL ?_ | refine QM ?_) | (refine awp_skip ?_; repeat first | refine QL ?_ | refine QM ?_)))
  repeat first | refine Qo ?_ | refine Qn ?_
  refine awp_forK [0, 1, 12] (fun i : Nat => [(13, I64 i)]) (fun i : Nat => H) (fun i : Nat => i ≤ l.length) (fun i : Nat => l.length - i) (0) (Nat.zero_le _) (by repeat first | exact Forgets.nil | refine Forgets.cons (by first | (simp only [look, ↓reduceIte, Nat.reduceEqDiff]; done) | (simp only [look, ↓reduceIte, Nat.reduceEqDiff]; rfl) | simp [look, hii]) ?_) rfl ?_
  rintro i hi
  by_cases hlt : i < l.length
  · obtain ⟨g, o, e, cs, hve, hcs, hcc, hlen⟩ := hv.at (ruc_hl l) i hlt
    obtain ⟨g', o', e', cs', hwe, hcs', hcc', hlen'⟩ := hw.at (ruc_hl l) i hlt
    cases hve
    cases hwe
    have hx := aeq_refrun (hl _ (List.getElem_mem hlt)) (hr _ (List.getElem_mem hlt))
    generalize l[i] = x at *
    have xl := ruc_length x
    have xc := ruc_cellv x
    have hii : IntKind.i64.wrap ((i : Int) + 1) = (i : Int) + 1 := wi64 _ (by omega) (by omega)
    iterate 1 ((repeat first | refine Qo ?_ | refine Qn ?_); (first | (refine QK (by kernel_rfl) ?_; intro K_ hK_; simp -implicitDefEqProofs (disch := (try simp only [sl]); try omega) only [sm,QJ,Qj,Qi,Qq,QC,bd,look,aput,QI,abin,anil,ty,↓reduceIte,Nat.reduceEqDiff,Nat.reduceAdd,Nat.reduceSub,Nat.reduceMul,Int.reduceLT,Int.reduceLE,Int.reduceNeg,Int.reduceToNat,reduceCtorEq,Nat.reduceBEq,Nat.reduceBNe,Qk,Qe,Value.cells,am,mm,keep, aint, lv, lw, hcs, hcc, hlen, hcs', hcc', hlen', xl, xc, hx, Bool.not_true, hlt]; refine hK_ _ _ ?_; clear hK_ K_; repeat first | refine QL ?_ | refine QM ?_)))
    repeat first | refine Qo ?_ | refine Qn ?_
    refine awp_if true rfl (by first | (simp only [aeval_tmp, look, ↓reduceIte, Nat.reduceEqDiff]; try rfl) | rfl) (fun _ => ?_) (fun h => absurd h (by decide))
    iterate 3 ((repeat first | refine Qo ?_ | refine Qn ?_); (first | ((first | refine QK (by kernel_rfl) ?_ | refine awp_region_drawK (id := 6) [(0, []), (1, []), (2, []), (3, []), (4, []), (5, []), (6, []), (7, []), (8, [])] mixed (by kernel_rfl) ?_); intro K_ hK_; simp -implicitDefEqProofs (disch := (try simp only [sl]); try omega) only [sm,QJ,aSel,Qu,Qv,Qw,Qx,Qy,Qj,Qi,Qq,QC,Qz,bd,QF,look,aput,QI,abin,anil,Qb,QA,ty,↓reduceIte,Nat.reduceEqDiff,Nat.reduceAdd,Nat.reduceSub,Nat.reduceMul,Int.reduceLT,Int.reduceLE,Int.reduceNeg,Int.reduceToNat,reduceCtorEq,Nat.reduceBEq,Nat.reduceBNe,Qk,Qe,Value.cells,am,mm,keep, aint, lv, lw, hcs, hcc, hlen, hcs', hcc', hlen', xl, xc, hx, Bool.not_true, hlt]; refine hK_ _ _ ?_; clear hK_ K_; repeat first | refine QL ?_ | refine QM ?_) | (refine awp_skip ?_; repeat first | refine QL ?_ | refine QM ?_)))
    repeat first | refine Qo ?_ | refine Qn ?_
    refine awp_if false rfl (by first | (simp only [aeval_tmp, look, ↓reduceIte, Nat.reduceEqDiff]; try rfl) | rfl) (fun h => absurd h (by decide)) (fun _ => ?_)
    iterate 2 ((repeat first | refine Qo ?_ | refine Qn ?_); (first | (refine QK (by kernel_rfl) ?_; intro K_ hK_; simp -implicitDefEqProofs (disch := (try simp only [sl]); try omega) only [sm,QJ,Qj,Qi,Qq,QC,bd,look,aput,QI,abin,anil,ty,↓reduceIte,Nat.reduceEqDiff,Nat.reduceAdd,Nat.reduceSub,Nat.reduceMul,Int.reduceLT,Int.reduceLE,Int.reduceNeg,Int.reduceToNat,reduceCtorEq,Nat.reduceBEq,Nat.reduceBNe,Qk,Qe,Value.cells,am,mm,keep, aint, lv, lw, hcs, hcc, hlen, hcs', hcc', hlen', xl, xc, hx, Bool.not_true, hii]; refine hK_ _ _ ?_; clear hK_ K_; repeat first | refine QL ?_ | refine QM ?_) | (refine awp_skip ?_; repeat first | refine QL ?_ | refine QM ?_)))
    refine ⟨i + 1, by omega, (by repeat first | exact Forgets.nil | refine Forgets.cons (by first | (simp only [look, ↓reduceIte, Nat.reduceEqDiff]; done) | (simp only [look, ↓reduceIte, Nat.reduceEqDiff]; rfl) | simp [look, hii]) ?_), ?_⟩
    first | omega | exact ⟨rfl, by omega⟩ | exact ⟨rfl, by simp only []; omega⟩ | (simp only []; omega)
  have hi' : i = l.length := by omega
  iterate 1 ((repeat first | refine Qo ?_ | refine Qn ?_); (first | (refine QK (by kernel_rfl) ?_; intro K_ hK_; simp -implicitDefEqProofs (disch := (try simp only [sl]); try omega) only [sm,QJ,Qj,Qi,Qq,QC,bd,look,aput,QI,abin,anil,ty,↓reduceIte,Nat.reduceEqDiff,Nat.reduceAdd,Nat.reduceSub,Nat.reduceMul,Int.reduceLT,Int.reduceLE,Int.reduceNeg,Int.reduceToNat,reduceCtorEq,Nat.reduceBEq,Nat.reduceBNe,Qk,Qe,Value.cells,am,mm,keep, aint, lv, lw, hlt]; refine hK_ _ _ ?_; clear hK_ K_; repeat first | refine QL ?_ | refine QM ?_)))
  repeat first | refine Qo ?_ | refine Qn ?_
  refine awp_if false rfl (by first | (simp only [aeval_tmp, look, ↓reduceIte, Nat.reduceEqDiff]; try rfl) | rfl) (fun h => absurd h (by decide)) (fun _ => ?_)
  iterate 2 ((repeat first | refine Qo ?_ | refine Qn ?_); (first | (refine QK (by kernel_rfl) ?_; intro K_ hK_; simp -implicitDefEqProofs (disch := (try simp only [sl]); try omega) only [sm,QJ,Qj,Qi,Qq,QC,bd,look,aput,ty,↓reduceIte,Nat.reduceEqDiff,Nat.reduceAdd,Nat.reduceSub,Nat.reduceMul,Int.reduceLT,Int.reduceLE,Int.reduceNeg,Int.reduceToNat,reduceCtorEq,Nat.reduceBEq,Nat.reduceBNe,Qk,Qe,Value.cells,am,mm,keep, aint, lv, lw]; refine hK_ _ _ ?_; clear hK_ K_; repeat first | refine QL ?_ | refine QM ?_) | (refine awp_exit ?_; (repeat first | refine aThen_exit ?_ | refine aIn_out rfl ?_); refine aIn_here ?_; repeat first | refine QL ?_ | refine QM ?_)))
  first | refine awp_ret ?_ | skip
  show ∃ v, aresults Try.prog Try.f16 _ _ = some v ∧ _
  rw [aresults_1 (r := .tmp 4) (by kernel_rfl)]
  simp -implicitDefEqProofs (disch := (try simp only [sl]); try omega) only [aresult, Option.some.injEq, exists_eq_left', sm,Qj,Qi,Qq,QC,Qz,bd,QF,look,aput,QB,Qf,QA,ty,↓reduceIte,Nat.reduceEqDiff,Nat.reduceAdd,Nat.reduceSub,Nat.reduceMul,Int.reduceLT,Int.reduceLE,Int.reduceNeg,Int.reduceToNat,reduceCtorEq,Nat.reduceBEq,Nat.reduceBNe,Qk,Qe,Value.cells,am,mm,keep, aint, lv, lw]
end Go.Proofs.Ytldfnfpinemedaa
