/- ledger: Twice. -/
import Derived.Test.YtldfnfpinemedaaLmd
namespace Go.Proofs.Ytldfnfpinemedaa
open Go Go.RowKit
--hide
set_option linter.unusedSimpArgs false
set_option linter.unusedVariables false
set_option maxRecDepth 4000
set_option maxHeartbeats 8000000 in
theorem reftwice_calls (v : Value) (l : List Us) (H : AH) (hv : SLn H v l.length (flU l)) (hm : l.length ≤ 1000) (hr : ∀ x ∈ l, rngU x) :
    ACalls Try.prog 35 #[v] H fun w H' => (∃ a b, w = .tuple #[.int .i64 a, .bool b] ∧ TwS l a b) ∧ Ext H H' := by
  have lv := alen_slnU (P := Try.prog) (T := 22) (by simp only [ty]) hv
  refine acalls_of_body Try.func35 rfl Try.ntmps35 (by simp) ?_
  simp only [argsT, Nat.reduceAdd]
  iterate 2 ((repeat first | refine Qo ?_ | refine Qn ?_); (first | (refine QK (by kernel_rfl) ?_; intro K_ hK_; simp -implicitDefEqProofs (disch := (try simp only [sl]); try omega) only [sm,QJ,Qj,Qi,Qq,QC,bd,look,aput,ty,↓reduceIte,Nat.reduceEqDiff,Nat.reduceAdd,Nat.reduceSub,Nat.reduceMul,Int.reduceLT,Int.reduceLE,Int.reduceNeg,Int.reduceToNat,reduceCtorEq,Nat.reduceBEq,Nat.reduceBNe,Qk,Qe,Value.cells,am,mm,keep, aint, lv]; refine hK_ _ _ ?_; clear hK_ K_; repeat first | refine QL ?_ | refine QM ?_)))
  repeat first | refine Qo ?_ | refine Qn ?_
  refine awp_forK [0] (fun x : Nat × AH => [(4, I64 x.1)]) (fun x : Nat × AH => x.2) (fun x : Nat × AH => x.1 ≤ l.length ∧ (∀ j (hj : j < l.length), j < x.1 → l[j] ∉ l.take j) ∧ Ext H x.2) (fun x : Nat × AH => l.length - x.1) ((0, H)) (⟨Nat.zero_le _, fun j hj h => absurd h (by omega), Ext.refl _⟩) (by repeat first | exact Forgets.nil | refine Forgets.cons (by first | (simp only [look, ↓reduceIte, Nat.reduceEqDiff]; done) | (simp only [look, ↓reduceIte, Nat.reduceEqDiff]; rfl) | simp [look]) ?_) rfl ?_
  rintro ⟨i, H2⟩ ⟨hi, hb, x2⟩
  simp only [] at hi hb x2 ⊢
  by_cases hlt : i < l.length
  · have hv2 := hv.mono x2
    obtain ⟨g, o, e, cs, hve, hcs, hcc, hlen⟩ := hv2.at (usc_hl l) i hlt
    cases hve
    have hui := hr _ (List.getElem_mem hlt)
    have hbn : l[i] ∉ l.take i → ∀ j (hj : j < l.length), j < i + 1 → l[j] ∉ l.take j := fun hn j hj h => by
      by_cases he : j = i
      · subst he; exact hn
      · exact hb j hj (by omega)
    have hbs : l[i] ∈ l.take i → TwS l (i : Int) true := fun h => .inl ⟨rfl, i, hlt, rfl, h, hb⟩
    have hrt : ∀ x ∈ l.take i, rngU x := fun x hx => hr x (List.mem_of_mem_take hx)
    have hml : (l.take i).length ≤ 1000 := by rw [List.length_take]; omega
    generalize l[i] = u at *
    have ul := usc_length u
    have uc := usc_cellv u
    have ut := usc_take u
    have hii : IntKind.i64.wrap ((i : Int) + 1) = (i : Int) + 1 := wi64 _ (by omega) (by omega)
    iterate 1 ((repeat first | refine Qo ?_ | refine Qn ?_); (first | (refine QK (by kernel_rfl) ?_; intro K_ hK_; simp -implicitDefEqProofs (disch := (try simp only [sl]); try omega) only [sm,QJ,Qj,Qi,Qq,QC,bd,look,aput,QI,abin,anil,ty,↓reduceIte,Nat.reduceEqDiff,Nat.reduceAdd,Nat.reduceSub,Nat.reduceMul,Int.reduceLT,Int.reduceLE,Int.reduceNeg,Int.reduceToNat,reduceCtorEq,Nat.reduceBEq,Nat.reduceBNe,Qk,Qe,Value.cells,am,mm,keep, aint, lv, hcs, hcc, hlen, ul, uc, ut, hlt]; refine hK_ _ _ ?_; clear hK_ K_; repeat first | refine QL ?_ | refine QM ?_)))
    repeat first | refine Qo ?_ | refine Qn ?_
    refine awp_if true rfl (by first | (simp only [aeval_tmp, look, ↓reduceIte, Nat.reduceEqDiff]; try rfl) | rfl) (fun _ => ?_) (fun h => absurd h (by decide))
    iterate 1 ((repeat first | refine Qo ?_ | refine Qn ?_); (first | (refine awp_region_drawK (id := 4) [(0, []), (1, []), (2, []), (3, []), (4, []), (5, []), (6, []), (7, [])] mixed (by kernel_rfl) ?_; intro K_ hK_; simp -implicitDefEqProofs (disch := (try simp only [sl]); try omega) only [sm,aSel,Qu,Qv,Qw,Qx,Qy,Qj,Qi,Qq,QC,Qz,bd,QF,look,aput,Qm,Qb,QA,Qr,aslice3,asl3,loN,hiN,ty,↓reduceIte,Nat.reduceEqDiff,Nat.reduceAdd,Nat.reduceSub,Nat.reduceMul,Int.reduceLT,Int.reduceLE,Int.reduceNeg,Int.reduceToNat,reduceCtorEq,Nat.reduceBEq,Nat.reduceBNe,Qk,Qe,Value.cells,am,mm,keep, aint, lv, hcs, hcc, hlen, ul, uc, ut, hlt]; refine hK_ _ _ ?_; clear hK_ K_; repeat first | refine QL ?_ | refine QM ?_) | (refine awp_skip ?_; repeat first | refine QL ?_ | refine QM ?_)))
    (repeat first | refine Qo ?_ | refine Qn ?_); refine awp_region_drawK (id := 4) [(0, []), (1, []), (2, []), (3, []), (4, []), (5, []), (6, []), (7, [])] mixed (by kernel_rfl) ?_; intro K_ hK_; simp -implicitDefEqProofs (disch := (try simp only [sl]); try omega) only [sm,aSel,Qu,Qv,Qw,Qx,Qy,Qj,Qi,Qq,QC,Qz,bd,QF,look,aput,Qm,Qb,QA,Qr,aslice3,asl3,loN,hiN,ty,↓reduceIte,Nat.reduceEqDiff,Nat.reduceAdd,Nat.reduceSub,Nat.reduceMul,Int.reduceLT,Int.reduceLE,Int.reduceNeg,Int.reduceToNat,reduceCtorEq,Nat.reduceBEq,Nat.reduceBNe,Qk,Qe,Value.cells,am,mm,keep, aint, lv, hcs, hcc, hlen, ul, uc, ut, hlt]
    rw [Nat.sub_zero]
    refine ACalls.mono (refhas_calls _ (l.take i) u H2 (hv2.pre i hi _) hml hrt hui) ?_
    rintro _ H3 ⟨rfl, e3⟩
    by_cases hx : u ∈ l.take i
    · rw [decide_eq_true hx]
      try simp -implicitDefEqProofs (disch := (try simp only [sl]); try omega) only [sm,aSel,Qu,Qv,Qw,Qx,Qy,Qj,Qi,Qq,QC,Qz,bd,QF,look,aput,Qm,Qb,QA,Qr,aslice3,asl3,loN,hiN,ty,↓reduceIte,Nat.reduceEqDiff,Nat.reduceAdd,Nat.reduceSub,Nat.reduceMul,Int.reduceLT,Int.reduceLE,Int.reduceNeg,Int.reduceToNat,reduceCtorEq,Nat.reduceBEq,Nat.reduceBNe,Qk,Qe,Value.cells,am,mm,keep, aint]
      try (refine hK_ _ _ ?_; clear hK_ K_; repeat first | refine QL ?_ | refine QM ?_)
      repeat first | refine Qo ?_ | refine Qn ?_
      refine awp_if true rfl (by first | (simp only [aeval_tmp, look, ↓reduceIte, Nat.reduceEqDiff]; try rfl) | rfl) (fun _ => ?_) (fun h => absurd h (by decide))
      iterate 1 ((repeat first | refine Qo ?_ | refine Qn ?_); (first | (refine QK (by kernel_rfl) ?_; intro K_ hK_; simp -implicitDefEqProofs (disch := (try simp only [sl]); try omega) only [sm,QJ,Qj,Qi,Qq,QC,bd,look,aput,ty,↓reduceIte,Nat.reduceEqDiff,Nat.reduceAdd,Nat.reduceSub,Nat.reduceMul,Int.reduceLT,Int.reduceLE,Int.reduceNeg,Int.reduceToNat,reduceCtorEq,Nat.reduceBEq,Nat.reduceBNe,Qk,Qe,Value.cells,am,mm,keep, aint]; refine hK_ _ _ ?_; clear hK_ K_; repeat first | refine QL ?_ | refine QM ?_)))
      first | refine awp_ret ?_ | skip
      show ∃ v, aresults Try.prog Try.f35 _ _ = some v ∧ _
      rw [aresults_2 (r := .tmp 2) (s := .tmp 3) (by kernel_rfl)]
      simp -implicitDefEqProofs (disch := (try simp only [sl]); try omega) only [aresult, Option.some.injEq, exists_eq_left', sm,Qj,Qi,Qq,QC,Qz,bd,QF,look,aput,QB,Qf,QA,ty,↓reduceIte,Nat.reduceEqDiff,Nat.reduceAdd,Nat.reduceSub,Nat.reduceMul,Int.reduceLT,Int.reduceLE,Int.reduceNeg,Int.reduceToNat,reduceCtorEq,Nat.reduceBEq,Nat.reduceBNe,Qk,Qe,Value.cells,am,mm,keep, aint]
      exact ⟨⟨_, _, rfl, hbs hx⟩, x2.trans e3⟩
    · rw [decide_eq_false hx]
      try simp -implicitDefEqProofs (disch := (try simp only [sl]); try omega) only [sm,aSel,Qu,Qv,Qw,Qx,Qy,Qj,Qi,Qq,QC,Qz,bd,QF,look,aput,Qm,Qb,QA,Qr,aslice3,asl3,loN,hiN,ty,↓reduceIte,Nat.reduceEqDiff,Nat.reduceAdd,Nat.reduceSub,Nat.reduceMul,Int.reduceLT,Int.reduceLE,Int.reduceNeg,Int.reduceToNat,reduceCtorEq,Nat.reduceBEq,Nat.reduceBNe,Qk,Qe,Value.cells,am,mm,keep, aint]
      try (refine hK_ _ _ ?_; clear hK_ K_; repeat first | refine QL ?_ | refine QM ?_)
      repeat first | refine Qo ?_ | refine Qn ?_
      refine awp_if false rfl (by first | (simp only [aeval_tmp, look, ↓reduceIte, Nat.reduceEqDiff]; try rfl) | rfl) (fun h => absurd h (by decide)) (fun _ => ?_)
      iterate 2 ((repeat first | refine Qo ?_ | refine Qn ?_); (first | (refine QK (by kernel_rfl) ?_; intro K_ hK_; simp -implicitDefEqProofs (disch := (try simp only [sl]); try omega) only [sm,QJ,Qj,Qi,Qq,QC,bd,look,aput,QI,abin,anil,ty,↓reduceIte,Nat.reduceEqDiff,Nat.reduceAdd,Nat.reduceSub,Nat.reduceMul,Int.reduceLT,Int.reduceLE,Int.reduceNeg,Int.reduceToNat,reduceCtorEq,Nat.reduceBEq,Nat.reduceBNe,Qk,Qe,Value.cells,am,mm,keep, aint, hii]; refine hK_ _ _ ?_; clear hK_ K_; repeat first | refine QL ?_ | refine QM ?_) | (refine awp_skip ?_; repeat first | refine QL ?_ | refine QM ?_)))
      refine ⟨(i + 1, H3), ⟨by simp only []; omega, hbn hx, x2.trans e3⟩, (by repeat first | exact Forgets.nil | refine Forgets.cons (by first | (simp only [look, ↓reduceIte, Nat.reduceEqDiff]; done) | (simp only [look, ↓reduceIte, Nat.reduceEqDiff]; rfl) | simp [look, hii]) ?_), ?_⟩
      first | omega | exact ⟨rfl, by omega⟩ | exact ⟨rfl, by simp only []; omega⟩ | (simp only []; omega)
  have hil : i = l.length := by omega
  iterate 1 ((repeat first | refine Qo ?_ | refine Qn ?_); (first | (refine QK (by kernel_rfl) ?_; intro K_ hK_; simp -implicitDefEqProofs (disch := (try simp only [sl]); try omega) only [sm,QJ,Qj,Qi,Qq,QC,bd,look,aput,QI,abin,anil,ty,↓reduceIte,Nat.reduceEqDiff,Nat.reduceAdd,Nat.reduceSub,Nat.reduceMul,Int.reduceLT,Int.reduceLE,Int.reduceNeg,Int.reduceToNat,reduceCtorEq,Nat.reduceBEq,Nat.reduceBNe,Qk,Qe,Value.cells,am,mm,keep, aint, lv, hlt]; refine hK_ _ _ ?_; clear hK_ K_; repeat first | refine QL ?_ | refine QM ?_)))
  repeat first | refine Qo ?_ | refine Qn ?_
  refine awp_if false rfl (by first | (simp only [aeval_tmp, look, ↓reduceIte, Nat.reduceEqDiff]; try rfl) | rfl) (fun h => absurd h (by decide)) (fun _ => ?_)
  iterate 2 ((repeat first | refine Qo ?_ | refine Qn ?_); (first | (refine QK (by kernel_rfl) ?_; intro K_ hK_; simp -implicitDefEqProofs (disch := (try simp only [sl]); try omega) only [sm,QJ,Qj,Qi,Qq,QC,bd,look,aput,ty,↓reduceIte,Nat.reduceEqDiff,Nat.reduceAdd,Nat.reduceSub,Nat.reduceMul,Int.reduceLT,Int.reduceLE,Int.reduceNeg,Int.reduceToNat,reduceCtorEq,Nat.reduceBEq,Nat.reduceBNe,Qk,Qe,Value.cells,am,mm,keep, aint, lv]; refine hK_ _ _ ?_; clear hK_ K_; repeat first | refine QL ?_ | refine QM ?_) | (refine awp_exit ?_; (repeat first | refine aThen_exit ?_ | refine aIn_out rfl ?_); refine aIn_here ?_; repeat first | refine QL ?_ | refine QM ?_)))
  first | refine awp_ret ?_ | skip
  show ∃ v, aresults Try.prog Try.f35 _ _ = some v ∧ _
  rw [aresults_2 (r := .tmp 2) (s := .tmp 3) (by kernel_rfl)]
  simp -implicitDefEqProofs (disch := (try simp only [sl]); try omega) only [aresult, Option.some.injEq, exists_eq_left', sm,Qj,Qi,Qq,QC,Qz,bd,QF,look,aput,QB,Qf,QA,ty,↓reduceIte,Nat.reduceEqDiff,Nat.reduceAdd,Nat.reduceSub,Nat.reduceMul,Int.reduceLT,Int.reduceLE,Int.reduceNeg,Int.reduceToNat,reduceCtorEq,Nat.reduceBEq,Nat.reduceBNe,Qk,Qe,Value.cells,am,mm,keep, aint, lv]
  exact ⟨⟨_, _, rfl, .inr ⟨rfl, rfl, fun j hj => hb j hj (by omega)⟩⟩, x2⟩
theorem kin_euse {u : Us} (h : rngU u) : KIn Try.prog 8 33 (usc u) := by
  have hu : Try.prog.underlying 33 = _ := (show Try.prog.underlying 33 = some (.struct #[{ name := "Epoch", type := 27, offset := 0, embedded := false, tag := "", pkgPath := "", byteOffset := 0 }, { name := "Block", type := 3, offset := 1, embedded := false, tag := "", pkgPath := "", byteOffset := 8 }]) by kernel_rfl)
  have c1 : Try.prog.cellsOf 27 = 1 := by kernel_rfl
  have c2 : Try.prog.cellsOf 3 = 1 := by kernel_rfl
  have hc : Try.prog.cellsOf 33 = 2 := by kernel_rfl
  have d0 : ((usc u).drop 0).take 1 = [.int .u32 u.1] := rfl
  have d1 : ((usc u).drop 1).take 1 = [.int .i64 u.2] := rfl
  unfold KIn
  simp only [hu, hc, usc_length u, true_and]
  refine ⟨by kernel_rfl, ?_, fun f hf => ?_⟩
  · simp only [List.map_cons, List.map_nil, c1, c2, d0, d1, List.flatten_cons, List.flatten_nil, List.append_nil]; rfl
  · simp only [List.mem_cons, List.not_mem_nil, or_false] at hf
    rcases hf with rfl | rfl
    · simp only [c1, d0]; exact kin_int (d := 6) (by kernel_rfl) (wfu _ h.1 h.2.1)
    · simp only [c2, d1]; exact kin_int (d := 6) (by kernel_rfl) (wfi _ h.2.2.1 h.2.2.2)
theorem aeq_euse {a b : Us} (ha : rngU a) (hb : rngU b) : aeqAgg Try.prog 33 (usc a).toArray (usc b).toArray = some (decide (a = b)) := by
  by_cases h : a = b
  · subst h
    rw [decide_eq_true rfl]
    exact aeq_same (kin_euse ha) (by kernel_rfl) (by kernel_rfl) (by kernel_rfl)
  · rw [decide_eq_false h]
    exact aeq_other (kin_euse ha) (kin_euse hb) (by kernel_rfl) (by kernel_rfl) (by kernel_rfl) (fun e => h (usc_inj e))
/-- The entries of a set of uses. -/
def entU (l : List Us) : List (Value × Value) := l.map fun u => (.agg (usc u).toArray, .bool true)
theorem afind_ent {u : Us} (hu : rngU u) : ∀ (l : List Us) (i : Nat), (∀ x ∈ l, rngU x) → (u ∈ l → ∃ j, afind Try.prog 33 (usc u).toArray (entU l) i = some (some (j, .bool true))) ∧ (u ∉ l → afind Try.prog 33 (usc u).toArray (entU l) i = some none)
  | [], i, _ => ⟨fun h => absurd h List.not_mem_nil, fun _ => rfl⟩
  | x :: t, i, hr => by
    have ih := afind_ent hu t (i + 1) (fun y hy => hr y (List.mem_cons_of_mem _ hy))
    have hq := aeq_euse hu (hr x List.mem_cons_self)
    have e1 : entU (x :: t) = (.agg (usc x).toArray, .bool true) :: entU t := rfl
    rw [e1, afind_agg, hq]
    by_cases h : u = x
    · rw [decide_eq_true h]
      exact ⟨fun _ => ⟨i, rfl⟩, fun k => absurd (h ▸ List.mem_cons_self) k⟩
    · rw [decide_eq_false h]
      refine ⟨fun k => ?_, fun k => ih.2 fun k2 => k (List.mem_cons_of_mem _ k2)⟩
      rcases List.mem_cons.1 k with k | k
      · exact absurd k h
      · exact ih.1 k
theorem map_bool : mapT Try.prog 96 = some (33, 4) := by
  have : Try.prog.underlying 96 = some (.map 33 4) := by kernel_rfl
  unfold mapT
  rw [this]
theorem wide_use : wideT Try.prog 33 = true := by kernel_rfl
theorem zero_bool : zero1 Try.prog 4 = some (.bool false) := by kernel_rfl
theorem alook_ent {u : Us} (hu : rngU u) {l : List Us} (hr : ∀ x ∈ l, rngU x) {H : AH} {g : Nat} (hg : H[g]? = some (.map (entU l))) :
    alookup Try.prog H 96 (.map (some g)) (.agg (usc u).toArray) = some (.bool (decide (u ∈ l))) := by
  have hq := aeq_euse hu hu
  rw [decide_eq_true rfl] at hq
  have hf := afind_ent hu l 0 hr
  unfold alookup
  simp only [hg, map_bool, wide_use, hq, true_and, and_self, if_true]
  by_cases h : u ∈ l
  · obtain ⟨j, hj⟩ := hf.1 h
    rw [hj, decide_eq_true h]
  · rw [hf.2 h, decide_eq_false h]
    exact zero_bool
theorem amup_ent {u : Us} (hu : rngU u) {l : List Us} (hr : ∀ x ∈ l, rngU x) {H : AH} {g : Nat} (hg : H[g]? = some (.map (entU l))) (hn : u ∉ l) :
    amapup Try.prog H 96 (.map (some g)) (.agg (usc u).toArray) (.bool true) = some (H.set g (.map (entU (l ++ [u])))) := by
  have hq := aeq_euse hu hu
  rw [decide_eq_true rfl] at hq
  have hf := (afind_ent hu l 0 hr).2 hn
  unfold amapup
  simp only [hg, map_bool, wide_use, hq, true_and, and_self, if_true, hf]
  rw [entU, entU, List.map_append]
  rfl
set_option maxHeartbeats 8000000 in
theorem twice_calls (v : Value) (l : List Us) (H : AH) (hv : SLn H v l.length (flU l)) (hm : l.length ≤ 1000) (hr : ∀ x ∈ l, rngU x) :
    ACalls Try.prog 34 #[v] H fun w H' => (∃ a b, w = .tuple #[.int .i64 a, .bool b] ∧ TwS l a b) ∧ Ext H H' := by
  have lv := alen_slnU (P := Try.prog) (T := 47) (by simp only [ty]) hv
  refine acalls_of_body Try.func34 rfl Try.ntmps34 (by simp) ?_
  simp only [argsT, Nat.reduceAdd]
  iterate 3 ((repeat first | refine Qo ?_ | refine Qn ?_); (first | (refine QK (by kernel_rfl) ?_; intro K_ hK_; simp -implicitDefEqProofs (disch := (try simp only [sl]); try omega) only [sm,QJ,Qj,Qi,Qq,QC,bd,look,aput,ty,↓reduceIte,Nat.reduceEqDiff,Nat.reduceAdd,Nat.reduceSub,Nat.reduceMul,Int.reduceLT,Int.reduceLE,Int.reduceNeg,Int.reduceToNat,reduceCtorEq,Nat.reduceBEq,Nat.reduceBNe,Qk,Qe,Value.cells,am,mm,keep, aint, lv]; refine hK_ _ _ ?_; clear hK_ K_; repeat first | refine QL ?_ | refine QM ?_)))
  have hm0 : (H ++ [ABlk.map []])[H.length]? = some (.map (entU [])) := gpush _ _
  have x0 : Ext H (H ++ [ABlk.map []]) := Ext.push _ _
  generalize H ++ [ABlk.map []] = H0 at *
  repeat first | refine Qo ?_ | refine Qn ?_
  refine awp_forK [4, 8, 9] (fun x : Nat × AH => [(10, I64 x.1)]) (fun x : Nat × AH => x.2) (fun x : Nat × AH => x.1 ≤ l.length ∧ (∀ j (hj : j < l.length), j < x.1 → l[j] ∉ l.take j) ∧ Ext H x.2 ∧ x.2[H.length]? = some (.map (entU (l.take x.1)))) (fun x : Nat × AH => l.length - x.1) ((0, H0)) (⟨Nat.zero_le _, fun j hj h => absurd h (by omega), x0, hm0⟩) (by repeat first | exact Forgets.nil | refine Forgets.cons (by first | (simp only [look, ↓reduceIte, Nat.reduceEqDiff]; done) | (simp only [look, ↓reduceIte, Nat.reduceEqDiff]; rfl) | simp [look, hii]) ?_) rfl ?_
  rintro ⟨i, H2⟩ ⟨hi, hb, x2, hmp⟩
  simp only [] at hi hb x2 hmp ⊢
  have fo_ := True.intro
  have N_ : Now H H2 [] := ⟨x2, trivial⟩
  have f_ := N_.has
  simp only [Has] at f_
  by_cases hlt : i < l.length
  · have hv2 := hv.mono x2
    obtain ⟨g, o, e, cs, hve, hcs, hcc, hlen⟩ := hv2.at (usc_hl l) i hlt
    cases hve
    have hui := hr _ (List.getElem_mem hlt)
    have hbn : l[i] ∉ l.take i → ∀ j (hj : j < l.length), j < i + 1 → l[j] ∉ l.take j := fun hn j hj h => by
      by_cases he : j = i
      · subst he; exact hn
      · exact hb j hj (by omega)
    have hbs : l[i] ∈ l.take i → TwS l (i : Int) true := fun h => .inl ⟨rfl, i, hlt, rfl, h, hb⟩
    have hts : l.take (i + 1) = l.take i ++ [l[i]] := List.take_succ_eq_append_getElem hlt
    have hrt : ∀ x ∈ l.take i, rngU x := fun x hx => hr x (List.mem_of_mem_take hx)
    generalize l[i] = u at *
    have ul := usc_length u
    have uc := usc_cellv u
    have ut := usc_take u
    have uo := usc_ovr (0, 0) u
    have zl := usc_length (0, 0)
    have hii : IntKind.i64.wrap ((i : Int) + 1) = (i : Int) + 1 := wi64 _ (by omega) (by omega)
    iterate 1 ((repeat first | refine Qo ?_ | refine Qn ?_); (first | (refine QK (by kernel_rfl) ?_; intro K_ hK_; simp -implicitDefEqProofs (disch := (try simp only [sl]); try omega) only [sm,QJ,Qj,Qi,Qq,QC,bd,look,aput,QI,abin,anil,ty,↓reduceIte,Nat.reduceEqDiff,Nat.reduceAdd,Nat.reduceSub,Nat.reduceMul,Int.reduceLT,Int.reduceLE,Int.reduceNeg,Int.reduceToNat,reduceCtorEq,Nat.reduceBEq,Nat.reduceBNe,Qk,Qe,Value.cells,am,mm,keep, f_, fo_, aint, lv, hcs, hcc, hlen, ul, uc, ut, uo, zl, zU, hlt]; refine hK_ _ _ ?_; clear hK_ K_; repeat first | refine QL ?_ | refine QM ?_)))
    repeat first | refine Qo ?_ | refine Qn ?_
    refine awp_if true rfl (by first | (simp only [aeval_tmp, look, ↓reduceIte, Nat.reduceEqDiff]; try rfl) | rfl) (fun _ => ?_) (fun h => absurd h (by decide))
    iterate 2 ((repeat first | refine Qo ?_ | refine Qn ?_); (first | (refine QK (by kernel_rfl) ?_; intro K_ hK_; simp -implicitDefEqProofs (disch := (try simp only [sl]); try omega) only [sm,QJ,Qj,Qi,Qq,QC,Qz,bd,QF,look,aput,Qm,Qb,QA,ty,↓reduceIte,Nat.reduceEqDiff,Nat.reduceAdd,Nat.reduceSub,Nat.reduceMul,Int.reduceLT,Int.reduceLE,Int.reduceNeg,Int.reduceToNat,reduceCtorEq,Nat.reduceBEq,Nat.reduceBNe,Qk,Qe,Value.cells,am,mm,keep, f_, fo_, aint, lv, hcs, hcc, hlen, ul, uc, ut, uo, zl, zU, hlt]; refine hK_ _ _ ?_; clear hK_ K_; repeat first | refine QL ?_ | refine QM ?_) | (refine awp_skip ?_; repeat first | refine QL ?_ | refine QM ?_)))
    first | refine AWp.snap8 N_ ?_ | refine AWp.snap7 N_ ?_ | refine AWp.snap6 N_ ?_ | refine AWp.snap5 N_ ?_ | refine AWp.snap4 N_ ?_ | refine AWp.snap3 N_ ?_ | refine AWp.snap2 N_ ?_ | refine AWp.snap1 N_ ?_
    clear fo_; have fo_ := f_; clear f_ N_; intro H3 xH3 lH3 N_
    have f_ := N_.has
    simp only [Has] at f_
    have hm3 := xH3 _ _ hmp
    have hlk := alook_ent hui hrt hm3
    have k3 := AH.cells_own f_.1.2.1
    have l3 := got_lt hm3
    by_cases hx : u ∈ l.take i
    · rw [decide_eq_true hx] at hlk
      iterate 1 ((repeat first | refine Qo ?_ | refine Qn ?_); (first | (refine QK (by kernel_rfl) ?_; intro K_ hK_; simp -implicitDefEqProofs (disch := (try simp only [sl]); try omega) only [sm,QJ,Qj,Qi,Qq,QC,Qz,bd,QF,look,aput,Qm,QA,ty,↓reduceIte,Nat.reduceEqDiff,Nat.reduceAdd,Nat.reduceSub,Nat.reduceMul,Int.reduceLT,Int.reduceLE,Int.reduceNeg,Int.reduceToNat,reduceCtorEq,Nat.reduceBEq,Nat.reduceBNe,Qk,Qe,Value.cells,am,mm,keep, f_, fo_, aint, ul, uc, ut, hlk, k3, hlt]; refine hK_ _ _ ?_; clear hK_ K_; repeat first | refine QL ?_ | refine QM ?_)))
      repeat first | refine Qo ?_ | refine Qn ?_
      refine awp_if true rfl (by first | (simp only [aeval_tmp, look, ↓reduceIte, Nat.reduceEqDiff]; try rfl) | rfl) (fun _ => ?_) (fun h => absurd h (by decide))
      iterate 1 ((repeat first | refine Qo ?_ | refine Qn ?_); (first | (refine QK (by kernel_rfl) ?_; intro K_ hK_; simp -implicitDefEqProofs (disch := (try simp only [sl]); try omega) only [sm,QJ,Qj,Qi,Qq,QC,bd,look,aput,ty,↓reduceIte,Nat.reduceEqDiff,Nat.reduceAdd,Nat.reduceSub,Nat.reduceMul,Int.reduceLT,Int.reduceLE,Int.reduceNeg,Int.reduceToNat,reduceCtorEq,Nat.reduceBEq,Nat.reduceBNe,Qk,Qe,Value.cells,am,mm,keep, f_, fo_, aint, ul, uc, ut, hlk, k3]; refine hK_ _ _ ?_; clear hK_ K_; repeat first | refine QL ?_ | refine QM ?_)))
      first | refine awp_ret ?_ | skip
      show ∃ v, aresults Try.prog Try.f34 _ _ = some v ∧ _
      rw [aresults_2 (r := .tmp 2) (s := .tmp 3) (by kernel_rfl)]
      simp -implicitDefEqProofs (disch := (try simp only [sl]); try omega) only [aresult, Option.some.injEq, exists_eq_left', sm,Qj,Qi,Qq,QC,Qz,bd,QF,look,aput,QB,Qf,QA,ty,↓reduceIte,Nat.reduceEqDiff,Nat.reduceAdd,Nat.reduceSub,Nat.reduceMul,Int.reduceLT,Int.reduceLE,Int.reduceNeg,Int.reduceToNat,reduceCtorEq,Nat.reduceBEq,Nat.reduceBNe,Qk,Qe,Value.cells,am,mm,keep, f_, fo_, aint, ul, uc, ut, hlk, k3]
      exact ⟨⟨_, _, rfl, hbs hx⟩, x2.trans xH3⟩
    · rw [decide_eq_false hx] at hlk
      have hmu := amup_ent hui hrt hm3 hx
      rw [← hts] at hmu
      have xs : Ext H (H3.set H.length (.map (entU (l.take (i + 1))))) := (x2.trans xH3).set _ (Nat.le_refl _)
      have hms : (H3.set H.length (.map (entU (l.take (i + 1)))))[H.length]? = some (.map (entU (l.take (i + 1)))) := List.getElem?_set_self l3
      iterate 1 ((repeat first | refine Qo ?_ | refine Qn ?_); (first | (refine QK (by kernel_rfl) ?_; intro K_ hK_; simp -implicitDefEqProofs (disch := (try simp only [sl]); try omega) only [sm,QJ,Qj,Qi,Qq,QC,Qz,bd,QF,look,aput,Qm,QA,ty,↓reduceIte,Nat.reduceEqDiff,Nat.reduceAdd,Nat.reduceSub,Nat.reduceMul,Int.reduceLT,Int.reduceLE,Int.reduceNeg,Int.reduceToNat,reduceCtorEq,Nat.reduceBEq,Nat.reduceBNe,Qk,Qe,Value.cells,am,mm,keep, f_, fo_, aint, ul, uc, ut, hlk, k3, hmu, hlt]; refine hK_ _ _ ?_; clear hK_ K_; repeat first | refine QL ?_ | refine QM ?_)))
      repeat first | refine Qo ?_ | refine Qn ?_
      refine awp_if false rfl (by first | (simp only [aeval_tmp, look, ↓reduceIte, Nat.reduceEqDiff]; try rfl) | rfl) (fun h => absurd h (by decide)) (fun _ => ?_)
      iterate 3 ((repeat first | refine Qo ?_ | refine Qn ?_); (first | (refine QK (by kernel_rfl) ?_; intro K_ hK_; simp -implicitDefEqProofs (disch := (try simp only [sl]); try omega) only [sm,QJ,Qj,Qi,Qq,QC,Qz,bd,QF,look,aput,Qm,QI,abin,anil,QA,ty,↓reduceIte,Nat.reduceEqDiff,Nat.reduceAdd,Nat.reduceSub,Nat.reduceMul,Int.reduceLT,Int.reduceLE,Int.reduceNeg,Int.reduceToNat,reduceCtorEq,Nat.reduceBEq,Nat.reduceBNe,Qk,Qe,Value.cells,am,mm,keep, f_, fo_, aint, ul, uc, ut, hlk, k3, hmu, hii]; refine hK_ _ _ ?_; clear hK_ K_; repeat first | refine QL ?_ | refine QM ?_) | (refine awp_skip ?_; repeat first | refine QL ?_ | refine QM ?_)))
      refine ⟨(i + 1, H3.set H.length (.map (entU (l.take (i + 1))))), ⟨by simp only []; omega, hbn hx, xs, hms⟩, (by repeat first | exact Forgets.nil | refine Forgets.cons (by first | (simp only [look, ↓reduceIte, Nat.reduceEqDiff]; done) | (simp only [look, ↓reduceIte, Nat.reduceEqDiff]; rfl) | simp [look, hii]) ?_), ?_⟩
      first | omega | exact ⟨rfl, by omega⟩ | exact ⟨rfl, by simp only []; omega⟩ | (simp only []; omega)
  have hil : i = l.length := by omega
  iterate 1 ((repeat first | refine Qo ?_ | refine Qn ?_); (first | (refine QK (by kernel_rfl) ?_; intro K_ hK_; simp -implicitDefEqProofs (disch := (try simp only [sl]); try omega) only [sm,QJ,Qj,Qi,Qq,QC,bd,look,aput,QI,abin,anil,ty,↓reduceIte,Nat.reduceEqDiff,Nat.reduceAdd,Nat.reduceSub,Nat.reduceMul,Int.reduceLT,Int.reduceLE,Int.reduceNeg,Int.reduceToNat,reduceCtorEq,Nat.reduceBEq,Nat.reduceBNe,Qk,Qe,Value.cells,am,mm,keep, aint, lv, hlt]; refine hK_ _ _ ?_; clear hK_ K_; repeat first | refine QL ?_ | refine QM ?_)))
  repeat first | refine Qo ?_ | refine Qn ?_
  refine awp_if false rfl (by first | (simp only [aeval_tmp, look, ↓reduceIte, Nat.reduceEqDiff]; try rfl) | rfl) (fun h => absurd h (by decide)) (fun _ => ?_)
  iterate 2 ((repeat first | refine Qo ?_ | refine Qn ?_); (first | (refine QK (by kernel_rfl) ?_; intro K_ hK_; simp -implicitDefEqProofs (disch := (try simp only [sl]); try omega) only [sm,QJ,Qj,Qi,Qq,QC,bd,look,aput,ty,↓reduceIte,Nat.reduceEqDiff,Nat.reduceAdd,Nat.reduceSub,Nat.reduceMul,Int.reduceLT,Int.reduceLE,Int.reduceNeg,Int.reduceToNat,reduceCtorEq,Nat.reduceBEq,Nat.reduceBNe,Qk,Qe,Value.cells,am,mm,keep, aint, lv]; refine hK_ _ _ ?_; clear hK_ K_; repeat first | refine QL ?_ | refine QM ?_) | (refine awp_exit ?_; (repeat first | refine aThen_exit ?_ | refine aIn_out rfl ?_); refine aIn_here ?_; repeat first | refine QL ?_ | refine QM ?_)))
  first | refine awp_ret ?_ | skip
  show ∃ v, aresults Try.prog Try.f34 _ _ = some v ∧ _
  rw [aresults_2 (r := .tmp 2) (s := .tmp 3) (by kernel_rfl)]
  simp -implicitDefEqProofs (disch := (try simp only [sl]); try omega) only [aresult, Option.some.injEq, exists_eq_left', sm,Qj,Qi,Qq,QC,Qz,bd,QF,look,aput,QB,Qf,QA,ty,↓reduceIte,Nat.reduceEqDiff,Nat.reduceAdd,Nat.reduceSub,Nat.reduceMul,Int.reduceLT,Int.reduceLE,Int.reduceNeg,Int.reduceToNat,reduceCtorEq,Nat.reduceBEq,Nat.reduceBNe,Qk,Qe,Value.cells,am,mm,keep, aint, lv]
  exact ⟨⟨_, _, rfl, .inr ⟨rfl, rfl, fun j hj => hb j hj (by omega)⟩⟩, x2⟩
end Go.Proofs.Ytldfnfpinemedaa
