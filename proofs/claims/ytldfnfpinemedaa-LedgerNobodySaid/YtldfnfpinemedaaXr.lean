/- A range over a function that makes no round. -/
import Derived.Test.YtldfnfpinemedaaC7
import Derived.RangeFuncLeaves
import Derived.RangeFuncRecord
namespace Go.Proofs.Ytldfnfpinemedaa
open Go Go.RowKit
set_option linter.unusedSimpArgs false
set_option linter.unusedVariables false
set_option maxRecDepth 4000
theorem Sim.frame {φ : Phi} {H : AH} {W W' : World} (h : Sim φ H W) (hs : W.heap.size ≤ W'.heap.size) (hh : ∀ (b : Nat) (C : Array Value) (ty : TypeId) (fr : Nat × Nat), W.heap[b]? = some (.cells C ty fr) → W'.heap[b]? = W.heap[b]?) : Sim φ H W' where
  dom := fun g bi hg => ⟨(h.dom g bi hg).1, Nat.lt_of_lt_of_le (h.dom g bi hg).2 hs⟩
  own := fun g cs bi hg hφ => by
    obtain ⟨C, ty, fr, h1, h2⟩ := h.own g cs bi hg hφ
    exact ⟨C, ty, fr, by rw [hh _ _ _ _ h1]; exact h1, h2⟩
  ro := fun g cs bi hg hφ => by
    obtain ⟨C, ty, fr, h1, h2⟩ := h.ro g cs bi hg hφ
    exact ⟨C, ty, fr, by rw [hh _ _ _ _ h1]; exact h1, h2⟩
  sep := h.sep
theorem alloc_below (W : World) (o : Obj) {b : Nat} (hb : b < W.heap.size) : (W.alloc o).heap[b]? = W.heap[b]? := by
  show (W.heap.push o)[b]? = W.heap[b]?
  rw [Array.getElem?_push, if_neg (by omega)]
theorem heap_lt {W : World} {b : Nat} {o : Obj} (h : W.heap[b]? = some o) : b < W.heap.size := (Array.getElem?_eq_some_iff.1 h).1
theorem Sim.alloc {φ : Phi} {H : AH} {W : World} (h : Sim φ H W) (o : Obj) : Sim φ H (W.alloc o) :=
  h.frame (by rw [World.size_alloc]; omega) fun b C ty fr hb => alloc_below W o (heap_lt hb)
theorem Ev.alloc {φ φ' : Phi} {H H' : AH} {W W' : World} (h : Ev φ H W φ' H' W') (o : Obj) : Ev φ H W φ' H' (W'.alloc o) where
  os := h.os
  tape := h.tape
  output := h.output
  size := by rw [World.size_alloc]; have := h.size; omega
  len := h.len
  phi := h.phi
  absf := h.absf
  fr := fun b hb hn => by rw [alloc_below _ _ (Nat.lt_of_lt_of_le hb h.size)]; exact h.fr b hb hn
  fresh := h.fresh
theorem Ev.late {φ φ' : Phi} {H H' : AH} {W W' : World} (h : Ev φ H W φ' H' W') {D : Nat} (hD : W.heap.size ≤ D) (o : Obj) : Ev φ H W φ' H' (W'.putObj D o) where
  os := h.os
  tape := h.tape
  output := h.output
  size := by rw [World.putObj_size]; exact h.size
  len := h.len
  phi := h.phi
  absf := h.absf
  fr := fun b hb hn => by rw [World.putObj_heap_other (by omega)]; exact h.fr b hb hn
  fresh := h.fresh
theorem Sim.late {φ : Phi} {H : AH} {W : World} (h : Sim φ H W) {D : Nat} {o o' : Obj} (ho : W.heap[D]? = some o) (hc : ∀ (C : Array Value) (ty : TypeId) (fr : Nat × Nat), o ≠ .cells C ty fr) : Sim φ H (W.putObj D o') :=
  h.frame (by rw [World.putObj_size]; exact Nat.le_refl _) fun b C ty fr hb => World.putObj_heap_other (fun e => by rw [e, ho] at hb; cases hb; exact hc _ _ _ rfl)
/-- What is no row of cells stays as it is. -/
theorem Ev.stays {φ φ' : Phi} {H H' : AH} {W W' : World} (h : Ev φ H W φ' H' W') (hS : Sim φ H W) {D : Nat} {o : Obj} (ho : W.heap[D]? = some o) (hc : ∀ (C : Array Value) (ty : TypeId) (fr : Nat × Nat), o ≠ .cells C ty fr) : W'.heap[D]? = some o := by
  rw [h.fr D (heap_lt ho) ?_]
  · exact ho
  · intro g cs bi hg hφ e
    obtain ⟨C, ty, fr, h1, _⟩ := hS.own g cs bi hg hφ
    rw [e, ho] at h1
    cases h1
    exact hc _ _ _ rfl
abbrev markD (D : Nat) : Deferred := { target := .collected D, args := #[] }
theorem range0 {P : Program} {n : Nat} {ds : List Deferred} {φ : Phi} {t : ATmps} {a : Act} {H : AH} {W : World} (hS : Sim φ H W) (hT : TR n ds φ t a) {g : Operand} {ps : Array Tmp} {assign body : Code} {gf : FuncId} {lb : Array Value} (hg : operandOk g = true)
    (hv : aeval t g = .func (.func gf) #[] lb) (hcb : callable P gf = true) {R : AH → Prop} (hc : ACalls P gf (#[undef] ++ lb) H (fun v H' => R H')) :
    (Code.rangeFunc g ps assign body).wp P (fun e a' W' => e = .normal ∧ ∃ φ' H' D, R H' ∧ Sim φ' H' W' ∧ TR n (markD D :: ds) φ' t a' ∧ Ev φ H W φ' H' W' ∧ W.heap.size ≤ D ∧ W'.heap[D]? = some (.deferred (some []))) a W := by
  rw [← wpIn_wide (n := 0)]
  refine wpIn_rangeFunc (F := Fence.wide) fun fn _ => ?_
  have hev := hT.eval hg
  rw [hv] at hev
  obtain ⟨lb', hae, hlb⟩ : ∃ lb', a.eval g = .func (.func gf) #[] lb' ∧ VRA φ lb lb' := by
    generalize a.eval g = q at hev
    cases hev with
    | func fn h1 h2 hc hd =>
      rename_i first' cap'
      have : first' = #[] := Array.eq_empty_of_size_eq_zero (by rw [← h1]; rfl)
      subst this
      exact ⟨_, rfl, h2, hd⟩
  obtain ⟨rec, hrec⟩ : ∃ rec : Loop, rec = { state := .ready, pending := none, fn, tmps := a.tmps, params := ps, assign, body, defers := W.heap.size } := ⟨_, rfl⟩
  obtain ⟨W1, hW1⟩ : ∃ W1, (W.alloc (.deferred (some []))).alloc (.loop rec) = W1 := ⟨_, rfl⟩
  have hsz : (W.alloc (.deferred (some []))).heap.size = W.heap.size + 1 := World.size_alloc ..
  have hL1 : W1.heap[W.heap.size + 1]? = some (.loop rec) := by
    rw [← hW1]; have := World.alloc_heap_new (W.alloc (.deferred (some []))) (.loop rec); rwa [hsz] at this
  have hD1 : W1.heap[W.heap.size]? = some (.deferred (some [])) := by
    rw [← hW1, alloc_below _ _ (by omega)]; exact World.alloc_heap_new W _
  have hS1 : Sim φ H W1 := by rw [← hW1]; exact (hS.alloc _).alloc _
  have hE1 : Ev φ H W φ H W1 := by rw [← hW1]; exact ((Ev.refl φ H W).alloc _).alloc _
  have eg : ∀ args w, (callFunc gf args).run P w = .ok (.enter gf args) w := by
    unfold callable at hcb
    split at hcb
    · rename_i fn hf
      simp only [Bool.and_eq_true, bne_iff_ne] at hcb
      have hb : fn.body.isNone = false := by cases hbb : fn.body <;> simp_all
      intro args w
      simp [callFunc, program, Sem.run, hf, hcb.1]
      intro hn; simp [hn] at hb
    · cases hcb
  refine ⟨W.heap.size + 1, [markD W.heap.size], W1, { target := .fn (.func gf) lb', args := #[.func (.yield (W.heap.size + 1)) #[] #[]] }, W1, gf, #[.func (.yield (W.heap.size + 1)) #[] #[]] ++ lb', W1, ?_, ?_, fun _ _ => trivial, ?_, fun h => (by cases h), ?_⟩
  · rw [← hW1, hrec]; exact run_enterLoop_outer _ _ _ _ _
  · simp only [resolve, hae]
    simp [go_sem]
  · simp [invoke, go_sem, eg]
  · rw [callsIn_wide]
    have hA : VRA φ (#[undef] ++ lb) (#[.func (.yield (W.heap.size + 1)) #[] #[]] ++ lb') := by
      refine ⟨by simp [hlb.1], fun i h1 h2 => ?_⟩
      rw [Array.getElem_append, Array.getElem_append]
      split
      · rename_i hi
        rw [dif_pos (by simpa using hi)]
        have : i = 0 := by simpa using hi
        subst this
        exact .any _
      · rename_i hi
        rw [dif_neg (by simpa using hi)]
        exact hlb.2 _ _ _
    refine (hc φ W1 _ hS1 hA).mono ?_
    rintro e W3 ⟨v, v', H', φ', rfl, -, hR, hS3, hE3⟩
    have hL3 := hE3.stays hS1 hL1 (fun _ _ _ h => by cases h)
    have hD3 := hE3.stays hS1 hD1 (fun _ _ _ h => by cases h)
    refine ⟨none, W3.putObj (W.heap.size + 1) (.loop { rec with state := .exhausted }), ?_, ?_⟩
    · have := run_endLoop (P := P) hL3 (by rw [hrec]; show LoopState.ready ≠ LoopState.busy; decide)
      rw [this, hrec]
    · refine ⟨rfl, φ', H', W.heap.size, hR, hS3.late hL3 (fun _ _ _ h => by cases h), ⟨?_, hT.size, fun i => (hT.rel i).mono fun g bi hg => ?_⟩, (hE1.trans hE3).late (by omega) _, Nat.le_refl _, ?_⟩
      · show [markD W.heap.size] ++ a.defers = _
        rw [hT.defers]; rfl
      · have := (hS.dom g bi hg).1
        rw [hE3.phi g this]; exact hg
      · rw [World.putObj_heap_other (by omega)]; exact hD3
def noExit (K : ATmps → AH → Prop) : APost
  | .normal, t, H => K t H
  | _, _, _ => False
/-- A function that ranges over a function which makes no round. -/
theorem acalls_of_range0 {P : Program} {f : FuncId} {fn : Func} {c0 c1 c2 : Code} {id : Nat} {g : Operand} {ps : Array Tmp} {assign body : Code} {n : Nat} {args : Array Value} {H : AH} {R : Value → AH → Prop} (hf : P.funcs[f]? = some fn)
    (hb : fn.body = some (.seq c0 (.seq (.seq c1 (.block id (.rangeFunc g ps assign body))) c2))) (hn : fn.ntmps = n) (ha : args.size ≤ n) (hg : operandOk g = true)
    (h : AWp P n c0 (noExit (AWp P n c1 (noExit fun t H1 => ∃ gf lb, aeval t g = .func (.func gf) #[] lb ∧ callable P gf = true ∧ ACalls P gf (#[undef] ++ lb) H1 (fun _ H2 => AWp P n c2 (aBody P fn R) t H2)))) (argsT 0 args.toList) H) : ACalls P f args H R := by
  intro φ W args' hS hA
  rw [← callsIn_wide (n := 0)]
  refine callsIn_of_wp_marks hf hb trivial ?_
  rw [wpIn_wide]
  have hs : args'.size ≤ n := by rw [← hA.1]; exact ha
  have hT : TR n [] φ (argsT 0 args.toList) { tmps := args' ++ Array.replicate (fn.ntmps - args'.size) undef, defers := [] } := by
    refine ⟨rfl, by simp [hn]; omega, fun i => ?_⟩
    rw [look_argsT, if_pos (Nat.zero_le _), Nat.sub_zero]
    simp only [Array.getD_eq_getD_getElem?, List.getD_eq_getElem?_getD, Array.getElem?_toList, Array.getElem?_append]
    by_cases hi : i < args'.size
    · have hi' : i < args.size := by rw [hA.1]; exact hi
      rw [if_pos hi, Array.getElem?_eq_getElem hi', Array.getElem?_eq_getElem hi]
      exact hA.2 i hi' hi
    · have hi' : ¬ i < args.size := by rw [hA.1]; exact hi
      rw [Array.getElem?_eq_none (by omega)]
      exact .any _
  refine wp_seq (wp_mono (h [] φ W _ hS hT) ?_)
  rintro e a1 W1 ⟨φ1, t1, H1, k1, k2, k3, k4⟩
  cases e with
  | normal =>
    refine wp_seq (wp_seq (wp_mono (k1 [] φ1 W1 a1 k2 k3) ?_))
    rintro e a2 W2 ⟨φ2, t2, H2, m1, m2, m3, m4⟩
    cases e with
    | normal =>
      obtain ⟨gf, lb, v1, v2, v3⟩ := m1
      refine wp_block (wp_mono (range0 m2 m3 hg v1 v2 (R := fun H3 => AWp P n c2 (aBody P fn R) t2 H3) v3) ?_)
      rintro e a3 W3 ⟨rfl, φ3, H3, D, q1, q2, q3, q4, q5, q6⟩
      simp only [Exit.inBlock]
      refine wp_mono (q1 [markD D] φ3 W3 a3 q2 q3) ?_
      rintro e a4 W4 ⟨φ4, t4, H4, r1, r2, r3, r4⟩
      have hD4 := r4.stays q2 q6 (fun _ _ _ h => by cases h)
      have hW : W.heap.size ≤ D := Nat.le_trans (k4.trans m4).size q5
      have fin : (∃ v, aresults P fn t4 H4 = some v ∧ R v H4) → LeavesInM Fence.wide 0 P fn a4.tmps (fun e W' => ∃ v v' H' φ', e = .returned v' ∧ VR φ' v v' ∧ R v H' ∧ Sim φ' H' W' ∧ Ev φ H W φ' H' W') a4.defers .returning W4 := by
        rintro ⟨v, hv, hR⟩
        rw [r3.defers]
        have hS4 := r2.late (o' := .deferred none) hD4 (fun _ _ _ h => by cases h)
        obtain ⟨v', w1, w2⟩ := aresults_sound hS4 r3.rel hv
        exact ⟨(fun h => by cases h), .inl ⟨D, W4.putObj D (.deferred none), rfl, run_takeDeferred hD4, v', w2, v, v', H4, φ4, rfl, w1, hR, hS4, (k4.trans (m4.trans (q4.trans r4))).late hW _⟩⟩
      cases e with
      | normal => exact fin r1
      | ret => exact fin r1
      | _ => exact r1.elim
    | _ => exact m1.elim
  | _ => exact k1.elim
end Go.Proofs.Ytldfnfpinemedaa
