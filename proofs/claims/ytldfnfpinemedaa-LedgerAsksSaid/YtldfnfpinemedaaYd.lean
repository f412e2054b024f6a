/- slices.Delete of one run. -/
import Derived.Test.YtldfnfpinemedaaYj
namespace Go.Proofs.Ytldfnfpinemedaa
open Go Go.RowKit
--hide
set_option linter.unusedSimpArgs false
set_option linter.unusedVariables false
set_option maxRecDepth 4000
theorem app_srcX {P : Program} {H : AH} {t tx : TypeId} {s bytes g n c q o m e : Nat} {sp : Option Nat} {C C2 vs : List Value} (he : elemT P t = some (s, bytes)) (ht : sliceT P tx = true) (h2 : 0 < s) (hg : H[g]? = some (.own C)) (hq : H.cells q = some C2) (hv : (C2.drop o).take (m * s) = vs) (hm : m ≠ 0) (ho : o + m * s ≤ C2.length) (ha : vs.all cellv = true) (hc : n + m ≤ c) (hlc : c * s ≤ C.length) (hb : (n + m) * bytes ≤ 140737488355328) (h63 : n + m ≤ 9223372036854775807) :
    aappend P H t tx (.slice (some ⟨g, 0, some c⟩) n s) (.slice (some ⟨q, o, sp⟩) m e) = some (.slice (some ⟨g, 0, some c⟩) (n + m) s, H.set g (.own (ovr C (n * s) vs))) := by
  subst hv
  have hvl : ((C2.drop o).take (m * s)).length = m * s := by rw [List.length_take, List.length_drop]; omega
  have hnm : (n + m) * s ≤ c * s := Nat.mul_le_mul_right _ hc
  rw [Nat.add_mul] at hnm
  have hsrc : asrcZ P H t tx (.slice (some ⟨q, o, sp⟩) m e) s bytes = some ((C2.drop o).take (m * s), m) := by
    rw [asrcZ_slice ht]
    unfold asrc
    simp only [ht, if_true, hq, if_neg hm]
    rw [if_pos ⟨ho, ha⟩]
  unfold aappend
  simp only [he, hsrc, hg, if_neg hm]
  rw [if_pos ⟨trivial, by omega, by omega, hb, h63⟩, if_pos hc, if_pos (by rw [hvl]; omega), Nat.zero_add]
theorem app_srcX0 {P : Program} {H : AH} {t tx : TypeId} {s bytes g n c q o e : Nat} {sp : Option Nat} (he : elemT P t = some (s, bytes)) (ht : sliceT P tx = true) :
    aappend P H t tx (.slice (some ⟨g, 0, some c⟩) n s) (.slice (some ⟨q, o, sp⟩) 0 e) = some (.slice (some ⟨g, 0, some c⟩) n s, H) := by
  have hsrc : asrcZ P H t tx (.slice (some ⟨q, o, sp⟩) 0 e) s bytes = some ([], 0) := by
    rw [asrcZ_slice ht]
    unfold asrc
    simp only [ht, if_true]
  unfold aappend
  simp only [he, hsrc, if_true]
theorem clear_X {P : Program} {H : AH} {t s bytes g k m e : Nat} {sp : Option Nat} {C : List Value} (he : elemT P t = some (s, bytes)) (hq : H[g]? = some (.own C)) (hk : k * s + m * s ≤ C.length) (hm : 0 < m) :
    ∃ C', aclear P H t (.slice (some ⟨g, k * s, sp⟩) m e) = some (H.set g (.own C')) ∧ C'.take (k * s) = C.take (k * s) ∧ C'.length = C.length := by
  have hrl : (List.replicate (m * s) undef).length = m * s := List.length_replicate
  refine ⟨ovr C (k * s) (List.replicate (m * s) undef), ?_, ?_, ovr_length (by rw [hrl]; omega)⟩
  · unfold aclear
    simp only [he, hq]
    rw [if_neg (by omega), if_pos (by rw [hrl]; omega)]
  · rw [ovr_eq _ _ _ (by rw [hrl]; omega), List.append_assoc, List.take_append_of_le_length (by rw [List.length_take]; omega), List.take_take, Nat.min_self]
set_option maxHeartbeats 8000000 in
theorem delX (g n i c : Nat) (C : List Value) (H : AH) (hg : H[g]? = some (.own C)) (hn : n ≤ 1000) (hi : i < n) (hc : n ≤ c) (hcC : c * 3 ≤ C.length) (hCv : (C.take (n * 3)).all cellv = true) :
    ACalls Try.prog 42 #[.slice (some ⟨g, 0, some c⟩) n 3, I64 i, .int .i64 ((i + 1 : Nat) : Int)] H fun w H' =>
      (∃ s C', w = .slice (some ⟨g, 0, s⟩) (n - 1) 3 ∧ H'[g]? = some (.own C') ∧ C'.take ((n - 1) * 3) = C.take (i * 3) ++ (C.drop ((i + 1) * 3)).take ((n - (i + 1)) * 3) ∧ (n - 1) * 3 ≤ C'.length) ∧ But g H H' := by
  have hel : elemT Try.prog 38 = some (3, 24) := by simp only [ty]
  have hsl : sliceT Try.prog 38 = true := by simp only [ty]
  have hgc := AH.cells_own hg
  have hgl := got_lt hg
  have hne : ((i : Int) == ((i + 1 : Nat) : Int)) = false := by simp; omega
  have a1 : i ≤ i + 1 ∧ i + 1 ≤ n ∧ n ≤ c ∧ i < n := by omega
  have a2 : i ≤ c := by omega
  have a3 : i + 1 ≤ n := by omega
  have a4 : n - 1 ≤ n := by omega
  have a5 : n - 1 < c ∨ n - 1 = 0 := by omega
  have a6 : i + 1 ≤ n ∧ n ≤ c := by omega
  have a7 : n - 1 ≤ n ∧ n ≤ c := by omega
  have hmv : ((C.drop ((i + 1) * 3)).take ((n - (i + 1)) * 3)).all cellv = true := by
    rw [List.all_eq_true] at hCv ⊢
    intro y hy
    apply hCv
    have : (C.drop ((i + 1) * 3)).take ((n - (i + 1)) * 3) = (C.take (n * 3)).drop ((i + 1) * 3) := by rw [List.drop_take, ← Nat.sub_mul]
    rw [this] at hy
    exact List.mem_of_mem_drop hy
  by_cases hlast : i + 1 = n
  · have hap : ∀ q o e sp, aappend Try.prog H 38 38 (.slice (some ⟨g, 0, some c⟩) i 3) (.slice (some ⟨q, o, sp⟩) 0 e) = _ := fun q o e sp => app_srcX0 (c := c) (g := g) (n := i) hel hsl
    have hn1 : n - 1 = i := by omega
    obtain ⟨C1, hcl, k1, k2⟩ := clear_X (P := Try.prog) (H := H) (t := 38) (g := g) (k := i) (m := n - i) (e := 3) (sp := some (c - i)) hel hg (by omega) (by omega)
    have h0 : n - (i + 1) = 0 := by omega
    have b1 : i ≤ n ∧ n ≤ c := by omega
    have b2 : i < c ∨ i = 0 := by omega
    by_cases hcap : i + 1 < c
    · have b3 : i + 1 < c ∨ i + 1 = 0 := .inl hcap
      have fo_ : True := trivial
      have N_ := Now.start H
      have f_ := N_.has
      simp only [Has] at f_
      refine acalls_of_body Try.func42 rfl Try.ntmps42 (by simp) ?_
      simp only [argsT, Nat.reduceAdd]
      iterate 3 ((repeat first | refine Qo ?_ | refine Qn ?_); (first | (refine QK (by kernel_rfl) ?_; intro K_ hK_; simp -implicitDefEqProofs (disch := (try simp only [sl]); try omega) only [sm,QJ,Qj,Qi,Qq,QC,bd,look,aput,QI,abin,anil,Qr,aslice3,asl3,loN,hiN,ty,↓reduceIte,Nat.reduceEqDiff,Nat.reduceAdd,Nat.reduceSub,Nat.reduceMul,Int.reduceLT,Int.reduceLE,Int.reduceNeg,Int.reduceToNat,reduceCtorEq,Nat.reduceBEq,Nat.reduceBNe,Qk,Qe,Value.cells,am,mm,keep, aint, hne, a1, a2, a3, a6, h0, hap, b1, b2, b3, hcl, Nat.sub_zero]; refine hK_ _ _ ?_; clear hK_ K_; repeat first | refine QL ?_ | refine QM ?_)))
      repeat first | refine Qo ?_ | refine Qn ?_
      refine awp_if false rfl (by first | (simp only [aeval_tmp, look, ↓reduceIte, Nat.reduceEqDiff]; try rfl) | rfl) (fun h => absurd h (by decide)) (fun _ => ?_)
      iterate 5 ((repeat first | refine Qo ?_ | refine Qn ?_); (first | ((first | refine QK (by kernel_rfl) ?_ | refine awp_region_drawK (id := 5) [(0, []), (1, []), (2, []), (3, []), (4, []), (5, []), (6, []), (7, [])] mixed (by kernel_rfl) ?_); intro K_ hK_; simp -implicitDefEqProofs (disch := (try simp only [sl]); try omega) only [sm,QJ,aSel,Qu,Qv,Qw,Qx,Qy,Qj,Qi,Qq,QC,bd,look,aput,Qm,Qr,aslice3,asl3,loN,hiN,ty,↓reduceIte,Nat.reduceEqDiff,Nat.reduceAdd,Nat.reduceSub,Nat.reduceMul,Int.reduceLT,Int.reduceLE,Int.reduceNeg,Int.reduceToNat,reduceCtorEq,Nat.reduceBEq,Nat.reduceBNe,Qk,Qe,Value.cells,am,mm,keep, aint, hne, a1, a2, a3, a6, h0, hap, b1, b2, b3, hcl, Nat.sub_zero]; refine hK_ _ _ ?_; clear hK_ K_; repeat first | refine QL ?_ | refine QM ?_) | (refine awp_skip ?_; repeat first | refine QL ?_ | refine QM ?_)))
      first | refine awp_ret ?_ | skip
      show ∃ v, aresults Try.prog Try.f42 _ _ = some v ∧ _
      rw [aresults_1 (r := .tmp 6) (by kernel_rfl)]
      simp -implicitDefEqProofs (disch := (try simp only [sl]); try omega) only [aresult, Option.some.injEq, exists_eq_left', sm,Qj,Qi,Qq,QC,Qz,bd,QF,look,aput,QB,Qf,QA,ty,↓reduceIte,Nat.reduceEqDiff,Nat.reduceAdd,Nat.reduceSub,Nat.reduceMul,Int.reduceLT,Int.reduceLE,Int.reduceNeg,Int.reduceToNat,reduceCtorEq,Nat.reduceBEq,Nat.reduceBNe,Qk,Qe,Value.cells,am,mm,keep, aint, hne, a1, a2, a3, a6, h0, hap, b1, b2, b3, hcl, Nat.sub_zero]
      rw [hn1]
      exact ⟨⟨some c, C1, rfl, rfl, by rw [k1]; simp, by omega⟩, (But.refl g H).set _⟩
    · have b3 : ¬ (i + 1 < c ∨ i + 1 = 0) := by omega
      have fo_ : True := trivial
      have N_ := Now.start H
      have f_ := N_.has
      simp only [Has] at f_
      refine acalls_of_body Try.func42 rfl Try.ntmps42 (by simp) ?_
      simp only [argsT, Nat.reduceAdd]
      iterate 3 ((repeat first | refine Qo ?_ | refine Qn ?_); (first | (refine QK (by kernel_rfl) ?_; intro K_ hK_; simp -implicitDefEqProofs (disch := (try simp only [sl]); try omega) only [sm,QJ,Qj,Qi,Qq,QC,bd,look,aput,QI,abin,anil,Qr,aslice3,asl3,loN,hiN,ty,↓reduceIte,Nat.reduceEqDiff,Nat.reduceAdd,Nat.reduceSub,Nat.reduceMul,Int.reduceLT,Int.reduceLE,Int.reduceNeg,Int.reduceToNat,reduceCtorEq,Nat.reduceBEq,Nat.reduceBNe,Qk,Qe,Value.cells,am,mm,keep, aint, hne, a1, a2, a3, a6, h0, hap, b1, b2, b3, hcl, Nat.sub_zero]; refine hK_ _ _ ?_; clear hK_ K_; repeat first | refine QL ?_ | refine QM ?_)))
      repeat first | refine Qo ?_ | refine Qn ?_
      refine awp_if false rfl (by first | (simp only [aeval_tmp, look, ↓reduceIte, Nat.reduceEqDiff]; try rfl) | rfl) (fun h => absurd h (by decide)) (fun _ => ?_)
      iterate 5 ((repeat first | refine Qo ?_ | refine Qn ?_); (first | ((first | refine QK (by kernel_rfl) ?_ | refine awp_region_drawK (id := 5) [(0, []), (1, []), (2, []), (3, []), (4, []), (5, []), (6, []), (7, [])] mixed (by kernel_rfl) ?_); intro K_ hK_; simp -implicitDefEqProofs (disch := (try simp only [sl]); try omega) only [sm,QJ,aSel,Qu,Qv,Qw,Qx,Qy,Qj,Qi,Qq,QC,bd,look,aput,Qm,Qr,aslice3,asl3,loN,hiN,ty,↓reduceIte,Nat.reduceEqDiff,Nat.reduceAdd,Nat.reduceSub,Nat.reduceMul,Int.reduceLT,Int.reduceLE,Int.reduceNeg,Int.reduceToNat,reduceCtorEq,Nat.reduceBEq,Nat.reduceBNe,Qk,Qe,Value.cells,am,mm,keep, aint, hne, a1, a2, a3, a6, h0, hap, b1, b2, b3, hcl, Nat.sub_zero]; refine hK_ _ _ ?_; clear hK_ K_; repeat first | refine QL ?_ | refine QM ?_) | (refine awp_skip ?_; repeat first | refine QL ?_ | refine QM ?_)))
      first | refine awp_ret ?_ | skip
      show ∃ v, aresults Try.prog Try.f42 _ _ = some v ∧ _
      rw [aresults_1 (r := .tmp 6) (by kernel_rfl)]
      simp -implicitDefEqProofs (disch := (try simp only [sl]); try omega) only [aresult, Option.some.injEq, exists_eq_left', sm,Qj,Qi,Qq,QC,Qz,bd,QF,look,aput,QB,Qf,QA,ty,↓reduceIte,Nat.reduceEqDiff,Nat.reduceAdd,Nat.reduceSub,Nat.reduceMul,Int.reduceLT,Int.reduceLE,Int.reduceNeg,Int.reduceToNat,reduceCtorEq,Nat.reduceBEq,Nat.reduceBNe,Qk,Qe,Value.cells,am,mm,keep, aint, hne, a1, a2, a3, a6, h0, hap, b1, b2, b3, hcl, Nat.sub_zero]
      rw [hn1]
      exact ⟨⟨some c, C1, rfl, rfl, by rw [k1]; simp, by omega⟩, (But.refl g H).set _⟩
  · have hml : ((C.drop ((i + 1) * 3)).take ((n - (i + 1)) * 3)).length = (n - (i + 1)) * 3 := by rw [List.length_take, List.length_drop]; omega
    have hap := app_srcX (P := Try.prog) (H := H) (t := 38) (tx := 38) (g := g) (n := i) (c := c) (q := g) (o := (i + 1) * 3) (m := n - (i + 1)) (e := 3) (sp := some (c - (i + 1))) hel hsl (by decide) hg hgc rfl (by omega) (by omega) hmv (by omega) hcC (by omega) (by omega)
    rw [show i + (n - (i + 1)) = n - 1 by omega] at hap
    have hov := ovr_eq C ((C.drop ((i + 1) * 3)).take ((n - (i + 1)) * 3)) (i * 3) (by rw [hml]; omega)
    have hol : (ovr C (i * 3) ((C.drop ((i + 1) * 3)).take ((n - (i + 1)) * 3))).length = C.length := ovr_length (by rw [hml]; omega)
    generalize ovr C (i * 3) ((C.drop ((i + 1) * 3)).take ((n - (i + 1)) * 3)) = C1 at *
    have g1 : (H.set g (.own C1))[g]? = some (.own C1) := gset _ _ _ hgl
    obtain ⟨C2, hcl, k1, k2⟩ := clear_X (P := Try.prog) (H := H.set g (.own C1)) (t := 38) (g := g) (k := n - 1) (m := n - (n - 1)) (e := 3) (sp := some (c - (n - 1))) hel g1 (by omega) (by omega)
    have b3 : i + 1 < c ∨ i + 1 = 0 := by omega
    have b4 : n - 1 ≤ n ∧ n ≤ c := by omega
    have fo_ : True := trivial
    have N_ := Now.start H
    have f_ := N_.has
    simp only [Has] at f_
    refine acalls_of_body Try.func42 rfl Try.ntmps42 (by simp) ?_
    simp only [argsT, Nat.reduceAdd]
    iterate 3 ((repeat first | refine Qo ?_ | refine Qn ?_); (first | (refine QK (by kernel_rfl) ?_; intro K_ hK_; simp -implicitDefEqProofs (disch := (try simp only [sl]); try omega) only [sm,QJ,Qj,Qi,Qq,QC,bd,look,aput,QI,abin,anil,Qr,aslice3,asl3,loN,hiN,ty,↓reduceIte,Nat.reduceEqDiff,Nat.reduceAdd,Nat.reduceSub,Nat.reduceMul,Int.reduceLT,Int.reduceLE,Int.reduceNeg,Int.reduceToNat,reduceCtorEq,Nat.reduceBEq,Nat.reduceBNe,Qk,Qe,Value.cells,am,mm,keep, aint, hne, a1, a2, a3, a5, a6, hap, b3, b4, hcl, Nat.sub_zero]; refine hK_ _ _ ?_; clear hK_ K_; repeat first | refine QL ?_ | refine QM ?_)))
    repeat first | refine Qo ?_ | refine Qn ?_
    refine awp_if false rfl (by first | (simp only [aeval_tmp, look, ↓reduceIte, Nat.reduceEqDiff]; try rfl) | rfl) (fun h => absurd h (by decide)) (fun _ => ?_)
    iterate 5 ((repeat first | refine Qo ?_ | refine Qn ?_); (first | ((first | refine QK (by kernel_rfl) ?_ | refine awp_region_drawK (id := 5) [(0, []), (1, []), (2, []), (3, []), (4, []), (5, []), (6, []), (7, [])] mixed (by kernel_rfl) ?_); intro K_ hK_; simp -implicitDefEqProofs (disch := (try simp only [sl]); try omega) only [sm,QJ,aSel,Qu,Qv,Qw,Qx,Qy,Qj,Qi,Qq,QC,bd,look,aput,Qm,Qr,aslice3,asl3,loN,hiN,ty,↓reduceIte,Nat.reduceEqDiff,Nat.reduceAdd,Nat.reduceSub,Nat.reduceMul,Int.reduceLT,Int.reduceLE,Int.reduceNeg,Int.reduceToNat,reduceCtorEq,Nat.reduceBEq,Nat.reduceBNe,Qk,Qe,Value.cells,am,mm,keep, aint, hne, a1, a2, a3, a5, a6, hap, b3, b4, hcl, Nat.sub_zero]; refine hK_ _ _ ?_; clear hK_ K_; repeat first | refine QL ?_ | refine QM ?_) | (refine awp_skip ?_; repeat first | refine QL ?_ | refine QM ?_)))
    first | refine awp_ret ?_ | skip
    show ∃ v, aresults Try.prog Try.f42 _ _ = some v ∧ _
    rw [aresults_1 (r := .tmp 6) (by kernel_rfl)]
    simp -implicitDefEqProofs (disch := (try simp only [sl]); try omega) only [aresult, Option.some.injEq, exists_eq_left', sm,Qj,Qi,Qq,QC,Qz,bd,QF,look,aput,QB,Qf,QA,ty,↓reduceIte,Nat.reduceEqDiff,Nat.reduceAdd,Nat.reduceSub,Nat.reduceMul,Int.reduceLT,Int.reduceLE,Int.reduceNeg,Int.reduceToNat,reduceCtorEq,Nat.reduceBEq,Nat.reduceBNe,Qk,Qe,Value.cells,am,mm,keep, aint, hne, a1, a2, a3, a5, a6, hap, b3, b4, hcl, Nat.sub_zero]
    refine ⟨⟨some c, C2, rfl, rfl, ?_, by omega⟩, (But.refl g H).set _⟩
    rw [k1, hov, List.take_append_of_le_length, List.take_of_length_le]
    · rw [List.length_append, List.length_take, hml]; omega
    · rw [List.length_append, List.length_take, hml]; omega
/-- A run taken out of a slice of runs. -/
theorem delR_calls (s : Value) (l : List Rn) (i b : Nat) (H : AH) (hs : DG ruc 3 b H s l) (hb : b ≤ H.length) (hi : i < l.length) (hn : l.length ≤ 1000) :
    ACalls Try.prog 42 #[s, I64 i, .int .i64 ((i + 1 : Nat) : Int)] H fun w H' =>
      DG ruc 3 b H' w (l.take i ++ l.drop (i + 1)) ∧ Rest s H H' ∧ Frm s w H := by
  have hlen : (l.take i ++ l.drop (i + 1)).length = l.length - 1 := by rw [List.length_append, List.length_take, List.length_drop]; omega
  rcases hs with ⟨rfl, rfl⟩ | ⟨g, C, rfl, hg, hCl, hCt, hbg⟩
  · exact absurd hi (by simp)
  · have hgl := got_lt hg
    refine ACalls.unX (acalls_X hg (by omega) (by decide) fun c hc => ?_) (R := fun w H' => (∃ s C', w = .slice (some ⟨g, 0, s⟩) (l.length - 1) 3 ∧ H'[g]? = some (.own C') ∧ C'.take ((l.length - 1) * 3) = ((l.take i).map ruc).flatten ++ ((l.drop (i + 1)).map ruc).flatten ∧ (l.length - 1) * 3 ≤ C'.length) ∧ But g H H') ?_
    · have hp := padTo_len C (0 + c * 3)
      have h1 : (padTo C (0 + c * 3)).take (l.length * 3) = (l.map ruc).flatten := by rw [padTo_takek _ _ _ hCl, hCt]
      have h2 : (padTo C (0 + c * 3)).take (i * 3) = ((l.take i).map ruc).flatten := by
        rw [← flat_take 3 ruc l (ruc_hl l), ← h1, List.take_take, Nat.min_eq_left (by omega)]
      have h3 : ((padTo C (0 + c * 3)).drop ((i + 1) * 3)).take ((l.length - (i + 1)) * 3) = ((l.drop (i + 1)).map ruc).flatten := by
        rw [← flat_drop 3 ruc l (ruc_hl l), ← h1, List.drop_take, ← Nat.sub_mul]
      have h4 : ((padTo C (0 + c * 3)).take (l.length * 3)).all cellv = true := by
        rw [h1, List.all_eq_true]
        intro y hy
        rw [List.mem_flatten] at hy
        obtain ⟨u, hu, hy⟩ := hy
        rw [List.mem_map] at hu
        obtain ⟨p, _, rfl⟩ := hu
        exact List.all_eq_true.1 (ruc_cellv p) y hy
      generalize padTo C (0 + c * 3) = D at *
      refine (delX g l.length i c D _ (gset _ _ _ hgl) hn hi hc (by omega) h4).mono ?_
      rintro w H' ⟨⟨s, C', e1, e2, e3, e4⟩, e6⟩
      rw [h2, h3] at e3
      exact ⟨⟨s, C', e1, e2, e3, e4⟩, ((But.refl g H).set _).trans e6⟩
    · rintro w H' ⟨⟨s, C', rfl, e2, e3, e4⟩, e6⟩
      refine ⟨.inr ⟨g, C', ?_, e2, by rw [hlen]; exact e4, by rw [hlen, e3, List.map_append, List.flatten_append], hbg⟩, Rest.of_but e6, ?_⟩
      · rw [hlen]; cases s <;> rfl
      · intro p o n e k
        have : p = g := by cases s <;> (cases k; rfl)
        exact .inr ⟨_, _, _, by rw [this]⟩
end Go.Proofs.Ytldfnfpinemedaa
