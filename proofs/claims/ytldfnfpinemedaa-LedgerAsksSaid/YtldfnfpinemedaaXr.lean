/- A range over a function. -/
import Derived.Test.YtldfnfpinemedaaC7
import Derived.RangeFuncIn
import Derived.RangeFuncLeaves
import Derived.RangeFuncRecord
namespace Go.Proofs.Ytldfnfpinemedaa
open Go Go.RowKit
set_option linter.unusedSimpArgs false
set_option linter.unusedVariables false
set_option maxRecDepth 4000
theorem odd_def (x : Option (List Deferred)) : Odd (.deferred x) := ⟨fun _ _ _ h => (by cases h), fun _ _ h => (by cases h)⟩
theorem odd_loop (r : Loop) : Odd (.loop r) := ⟨fun _ _ _ h => (by cases h), fun _ _ h => (by cases h)⟩
theorem alloc_below (W : World) (o : Obj) {b : Nat} (hb : b < W.heap.size) : (W.alloc o).heap[b]? = W.heap[b]? := by
  show (W.heap.push o)[b]? = W.heap[b]?
  rw [Array.getElem?_push, if_neg (by omega)]
/-- An object of another kind is laid. -/
theorem Sim.newodd {φ : Phi} {H : AH} {W : World} (h : Sim φ H W) {o : Obj} {p : Phi → Obj → Prop} (ho : Odd o) (hp : ∀ φ' : Phi, (∀ g bi, φ g = some bi → φ' g = some bi) → p φ' o) :
    Sim (φ.upd H.length ⟨W.heap.size, 0, 0, true⟩) (H ++ [.odd W.heap.size p]) (W.alloc o) := by
  have hn := h.fresh_none (Nat.le_refl H.length)
  have hle := Phi.upd_le (bi := ⟨W.heap.size, 0, 0, true⟩) hn
  have old : ∀ x c, (H ++ [.odd W.heap.size p])[x]? = some c → (x < H.length ∧ H[x]? = some c) ∨ (x = H.length ∧ c = .odd W.heap.size p) := fun x c hx => by
    by_cases hl : x < H.length
    · rw [get_push_lt hl] at hx; exact .inl ⟨hl, hx⟩
    · have : x = H.length := by have := own_lt hx; simp at this; omega
      subst this
      rw [get_push_eq] at hx; cases hx
      exact .inr ⟨rfl, rfl⟩
  refine ⟨fun x bi hx => ?_, fun x cs bi h1 hx => ?_, fun x cs bi h1 hx => ?_, fun x es bi h1 hx => ?_, fun x b q h1 => ?_, fun x y c bi bi' h1 hm hx hne hy h5 => ?_⟩
  · by_cases e : x = H.length
    · subst e
      rw [Phi.upd_self] at hx; cases hx
      exact ⟨by simp, by rw [alloc_size]; exact Nat.lt_succ_self _⟩
    · rw [Phi.upd_ne e] at hx
      exact ⟨by have := (h.dom x bi hx).1; simp; omega, by rw [alloc_size]; have := (h.dom x bi hx).2; omega⟩
  · rcases old x _ h1 with ⟨hl, h1⟩ | ⟨_, e⟩
    · rw [Phi.upd_ne (by omega)] at hx
      obtain ⟨D, ty', fr', d1, d2, d3, d4, d5⟩ := h.own x cs bi h1 hx
      refine ⟨D, ty', fr', by rw [alloc_below _ _ (h.dom x bi hx).2]; exact d1, d2, d3, d4, fun i v hv => ?_⟩
      obtain ⟨v', e1, e2⟩ := d5 i v hv
      exact ⟨v', e1, e2.mono hle⟩
    · cases e
  · rcases old x _ h1 with ⟨hl, h1⟩ | ⟨_, e⟩
    · rw [Phi.upd_ne (by omega)] at hx
      obtain ⟨D, ty', fr', d1, d5⟩ := h.ro x cs bi h1 hx
      refine ⟨D, ty', fr', by rw [alloc_below _ _ (h.dom x bi hx).2]; exact d1, fun i v hv => ?_⟩
      obtain ⟨v', e1, e2⟩ := d5 i v hv
      exact ⟨v', e1, e2.mono hle⟩
    · cases e
  · rcases old x _ h1 with ⟨hl, h1⟩ | ⟨_, e⟩
    · rw [Phi.upd_ne (by omega)] at hx
      obtain ⟨E, cl, d1, d2, d5⟩ := h.map x es bi h1 hx
      refine ⟨E, cl, by rw [alloc_below _ _ (h.dom x bi hx).2]; exact d1, d2, fun i k v hv => ?_⟩
      obtain ⟨v', e1, e2, e3⟩ := d5 i k v hv
      exact ⟨v', e1, e2.mono hle, e3.mono hle⟩
    · cases e
  · rcases old x _ h1 with ⟨hl, h1⟩ | ⟨e', e⟩
    · obtain ⟨bi, o', d1, d2, d3, d4, d5⟩ := h.odd x b q h1
      exact ⟨bi, o', by rw [Phi.upd_ne (by omega)]; exact d1, d2, by rw [alloc_below _ _ (by rw [← d2]; exact (h.dom x bi d1).2)]; exact d3, d4, fun φ' hφ' => d5 φ' fun y b' hy => hφ' y b' (hle y b' hy)⟩
    · cases e
      subst e'
      exact ⟨_, o, Phi.upd_self, rfl, alloc_heap_new _ _, ho, fun φ' hφ' => hp φ' fun y b' hy => hφ' y b' (hle y b' hy)⟩
  · rcases old x _ h1 with ⟨hl, h1⟩ | ⟨e', e⟩
    · rw [Phi.upd_ne (by omega)] at hx
      by_cases ey : y = H.length
      · subst ey
        rw [Phi.upd_self] at hy; cases hy
        have := (h.dom x bi hx).2
        show bi.blk ≠ W.heap.size
        omega
      · rw [Phi.upd_ne ey] at hy
        exact h.sep x y c bi bi' h1 hm hx hne hy (by rw [get_push_lt (h.dom y bi' hy).1] at h5; exact h5)
    · subst e'
      rw [Phi.upd_self] at hx; cases hx
      rw [Phi.upd_ne hne] at hy
      have := (h.dom y bi' hy).2
      show W.heap.size ≠ bi'.blk
      omega
theorem Ev.newodd {φ : Phi} {H : AH} {W : World} (h : Sim φ H W) (o : Obj) (p : Phi → Obj → Prop) : Ev φ H W (φ.upd H.length ⟨W.heap.size, 0, 0, true⟩) (H ++ [.odd W.heap.size p]) (W.alloc o) :=
  Ev.concretize (h.fresh_none (Nat.le_refl _)) rfl o (Nat.le_refl _) (fun x hx => get_push_lt hx) (by simp) rfl
/-- An object of another kind is written. -/
theorem Sim.setodd {φ : Phi} {H : AH} {W : World} (h : Sim φ H W) {g b : Nat} {o' : Obj} {p p' : Phi → Obj → Prop} (hg : H[g]? = some (.odd b p)) (ho : Odd o') (hp : ∀ φ' : Phi, (∀ g bi, φ g = some bi → φ' g = some bi) → p' φ' o') :
    Sim φ (H.set g (.odd b p')) (W.putObj b o') ∧ Ev φ H W φ (H.set g (.odd b p')) (W.putObj b o') := by
  obtain ⟨bi, o, d1, d2, d3, d4, d5⟩ := h.odd g b p hg
  have o1 : (W.putObj b o').heap.size = W.heap.size := World.putObj_size
  have o2 : ∀ k, k ≠ bi.blk → (W.putObj b o').heap[k]? = W.heap[k]? := fun k hk => World.putObj_heap_other (by rw [← d2]; exact hk)
  refine ⟨h.upmine hg ABlk.mine_odd ABlk.mine_odd d1 o1 o2 (fun _ e => by cases e) (fun _ e => by cases e) (fun b' q e => ?_), Ev.upmine hg ABlk.mine_odd d1 o1 o2 rfl rfl rfl⟩
  cases e
  exact ⟨o', d2, World.putObj_heap_same (by rw [← d2]; exact (h.dom g bi d1).2), ho, hp⟩
abbrev markD (D : Nat) : Deferred := { target := .collected D, args := #[] }
def defP : Phi → Obj → Prop := fun _ o => o = .deferred (some [])
def anyP : Phi → Obj → Prop := fun _ _ => True
def loopP (n : Nat) (q : FuncId) (ps : Array Tmp) (assign body : Code) (D : Nat) (t : ATmps) (st : LoopState) (pe : Option Code) : Phi → Obj → Prop := fun φ o =>
  ∃ T : Array Value, o = .loop { state := st, pending := pe, fn := q, tmps := T, params := ps, assign, body, defers := D } ∧ T.size = n ∧ ∀ i, VR φ (look t i) (T.getD i undef)
def noExit (K : ATmps → AH → Prop) : APost
  | .normal, t, H => K t H
  | _, _, _ => False
/-- How a round's body is left. -/
abbrev LoopP := LoopState → Option Code → Phi → Obj → Prop
def roundQ (gL L : Nat) (LP : LoopP) (R : Value → AH → Prop) : APost
  | .normal, _, H => H[gL]? = some (.odd L (LP .busy none)) ∧ R (.bool true) (H.set gL (.odd L (LP .ready none)))
  | .ret, _, H => H[gL]? = some (.odd L (LP .busy none)) ∧ R (.bool false) (H.set gL (.odd L (LP .done (some .ret))))
  | _, _, _ => False
theorem ayield {P : Program} {n : Nat} {q : FuncId} {p0 p1 : Tmp} {assign body : Code} {D gL L : Nat} {t : ATmps} {v0 v1 : Value} {H : AH} {R : Value → AH → Prop} {LP : LoopP} (hLP : LP = loopP n q #[p0, p1] assign body D t) (hL : H[gL]? = some (.odd L (LP .ready none))) (hp0 : p0 < n) (hp1 : p1 < n)
    (h : AWp P n assign (noExit fun t1 H1 => H1[gL]? = H[gL]? ∧ AWp P n body (roundQ gL L LP R) t1 (H1.set gL (.odd L (LP .busy none)))) (aput (aput t (some p0) v0) (some p1) v1) H) :
    AYield P L #[v0, v1] H R := by
  subst hLP
  intro φ W args' hS hA
  obtain ⟨bi, o, d1, d2, d3, d4, d5⟩ := hS.odd gL L _ hL
  obtain ⟨T, rfl, hTs, hTr⟩ := d5 φ (fun _ _ h => h)
  obtain ⟨x0, x1, rfl⟩ : ∃ x0 x1, args' = #[x0, x1] := by
    have hs := hA.1
    match args', hs with
    | ⟨[x0, x1]⟩, _ => exact ⟨x0, x1, rfl⟩
  have hx0 : VR φ v0 x0 := hA.2 0 (by simp) (by simp)
  have hx1 : VR φ v1 x1 := hA.2 1 (by simp) (by simp)
  have hy : (Instr.yield L #[x0, x1]).run P W = .ok (.round L q ((T.setIfInBounds p0 x0).setIfInBounds p1 x1) assign body) W := by
    have hfold : (#[p0, p1].zip #[x0, x1]).foldl (fun (tmps : Array Value) (x : Tmp × Value) => match x with | (t, a) => tmps.setIfInBounds t a) T = (T.setIfInBounds p0 x0).setIfInBounds p1 x1 := by simp
    rw [run_yield (P := P) (args := #[x0, x1]) d3 rfl]
    simp only []
    rw [hfold]
  refine ⟨q, _, assign, body, hy, roundIn_of_wpIn trivial ?_⟩
  have hT0 : TR n [] φ t { tmps := T, defers := [] } := ⟨rfl, hTs, hTr⟩
  have hT2 := (hT0.put (dst := some p0) (by simpa [dstOk] using hp0) hx0).put (dst := some p1) (by simpa [dstOk] using hp1) hx1
  have h1 := h (some L) [] φ W _ hS hT2
  refine wpIn_mono h1 ?_
  rintro e a1 W1 ⟨φ1, t1, H1, k1, k2, k3, k4⟩
  cases e with
  | normal =>
    obtain ⟨hk, hbody⟩ := k1
    rw [hL] at hk
    obtain ⟨b1, o1, e1, e2, e3, e4, e5⟩ := k2.odd gL L _ hk
    obtain ⟨T1, rfl, hs1, hr1⟩ := e5 φ1 (fun _ _ h => h)
    have all1 : ∀ φ' : Phi, (∀ g bi, φ1 g = some bi → φ' g = some bi) → ∀ i, VR φ' (look t i) (T1.getD i undef) := fun φ' hφ' i => (hr1 i).mono hφ'
    obtain ⟨s2, ev2⟩ := k2.setodd (p' := loopP n q #[p0, p1] assign body D t .busy none) hk (odd_loop _) (fun φ' hφ' => ⟨T1, rfl, hs1, all1 φ' hφ'⟩)
    refine ⟨_, run_beginRound e3 rfl, ?_⟩
    refine wpIn_mono (hbody (some L) [] φ1 _ a1 s2 k3) ?_
    rintro e a2 W3 ⟨φ3, t3, H3, m1, m2, m3, m4⟩
    cases e with
    | normal =>
      obtain ⟨hk3, hR⟩ := m1
      obtain ⟨b3, o3, f1, f2, f3, f4, f5⟩ := m2.odd gL L _ hk3
      obtain ⟨T3, rfl, hs3, hr3⟩ := f5 φ3 (fun _ _ h => h)
      obtain ⟨s4, ev4⟩ := m2.setodd (p' := loopP n q #[p0, p1] assign body D t .ready none) hk3 (odd_loop _) (fun φ' hφ' => ⟨T3, rfl, hs3, fun i => (hr3 i).mono hφ'⟩)
      exact ⟨_, _, run_endRound none f3, .bool true, .bool true, _, φ3, rfl, .bool _, hR, s4, k4.trans (ev2.trans (m4.trans ev4))⟩
    | ret =>
      obtain ⟨hk3, hR⟩ := m1
      obtain ⟨b3, o3, f1, f2, f3, f4, f5⟩ := m2.odd gL L _ hk3
      obtain ⟨T3, rfl, hs3, hr3⟩ := f5 φ3 (fun _ _ h => h)
      obtain ⟨s4, ev4⟩ := m2.setodd (p' := loopP n q #[p0, p1] assign body D t .done (some .ret)) hk3 (odd_loop _) (fun φ' hφ' => ⟨T3, rfl, hs3, fun i => (hr3 i).mono hφ'⟩)
      exact ⟨_, _, run_endRound (some .ret) f3, .bool false, .bool false, _, φ3, rfl, .bool _, hR, s4, k4.trans (ev2.trans (m4.trans ev4))⟩
    | _ => exact m1.elim
  | _ => exact k1.elim
/-- How a function's body is left where it has ranged over a function. -/
def rBody (P : Program) (fn : Func) (gD D : Nat) (R : Value → AH → Prop) : APost
  | .normal, t, H | .ret, t, H => H[gD]? = some (.odd D defP) ∧ ∃ v, aresults P fn t (H.set gD (.odd D anyP)) = some v ∧ R v (H.set gD (.odd D anyP))
  | _, _, _ => False
/-- A function that ranges over a function. -/
theorem acalls_of_range {P : Program} {f : FuncId} {fn : Func} {c0 c1 c2 : Code} {id : Nat} {g : Operand} {ps : Array Tmp} {assign body : Code} {n : Nat} {args : Array Value} {H : AH} {R : Value → AH → Prop} (hf : P.funcs[f]? = some fn)
    (hb : fn.body = some (.seq c0 (.seq (.seq c1 (.block id (.rangeFunc g ps assign body))) c2))) (hn : fn.ntmps = n) (ha : args.size ≤ n) (hg : operandOk g = true)
    (h : AWp P n c0 (noExit (AWp P n c1 (noExit fun t H1 => ∃ gf lb, aeval t g = .func (.func gf) #[] lb ∧ callable P gf = true ∧ ∀ D L q (LP : LoopP), LP = loopP n q ps assign body D t →
      ACalls P gf (#[.func (.yield L) #[] #[]] ++ lb) (H1 ++ [.odd D defP] ++ [.odd L (LP .ready none)]) (fun _ H2 => H2[H1.length]? = some (.odd D defP) ∧
        ((H2[H1.length + 1]? = some (.odd L (LP .ready none)) ∧ AWp P n c2 (rBody P fn H1.length D R) t (H2.set (H1.length + 1) (.odd L anyP))) ∨
         (H2[H1.length + 1]? = some (.odd L (LP .done (some .ret))) ∧ rBody P fn H1.length D R .ret t (H2.set (H1.length + 1) (.odd L anyP)))))))) (argsT 0 args.toList) H) : ACalls P f args H R := by
  intro φ W args' hS hA
  rw [← callsIn_wide (n := 0)]
  refine callsIn_of_wp_marks hf hb trivial ?_
  have hs : args'.size ≤ n := by rw [← hA.1]; exact ha
  have hT : TR n [] φ (argsT 0 args.toList) { tmps := args' ++ Array.replicate (fn.ntmps - args'.size) undef, defers := [] } := by
    refine ⟨rfl, by simp [hn]; omega, fun i => ?_⟩
    rw [look_argsT, if_pos (Nat.zero_le _), Nat.sub_zero]
    simp only [Array.getD_eq_getD_getElem?, List.getD_eq_getElem?_getD, Array.getElem?_toList, Array.getElem?_append]
    by_cases hi : i < args'.size
    · have hi' : i < args.size := by rw [hA.1]; exact hi
      rw [if_pos hi, Array.getElem?_eq_getElem hi', Array.getElem?_eq_getElem hi]
      exact hA.2 i hi' hi
    · have hi' : ¬ i < args.size := by rw [hA.1]; exact hi
      rw [Array.getElem?_eq_none (by omega)]
      exact .any _
  refine wpIn_seq (wpIn_mono (h none [] φ W _ hS hT) ?_)
  rintro e a1 W1 ⟨φ1, t1, H1, k1, k2, k3, k4⟩
  cases e with
  | normal =>
    refine wpIn_seq (wpIn_seq (wpIn_mono (k1 none [] φ1 W1 a1 k2 k3) ?_))
    rintro e a2 W2 ⟨φ2, t2, H2, m1, m2, m3, m4⟩
    cases e with
    | normal =>
      obtain ⟨gf, lb, hv, hcb, hcall⟩ := m1
      have E2 := k4.trans m4
      refine wpIn_block (wpIn_rangeFunc (F := Fence.wide) fun q _ => ?_)
      have hev := m3.eval hg
      rw [hv] at hev
      obtain ⟨lb', hae, hlb⟩ : ∃ lb', a2.eval g = .func (.func gf) #[] lb' ∧ VRA φ2 lb lb' := by
        generalize a2.eval g = qq at hev
        cases hev with
        | func fn h1 h2 hc hd =>
          rename_i first' cap'
          have : first' = #[] := Array.eq_empty_of_size_eq_zero (by rw [← h1]; rfl)
          subst this
          exact ⟨_, rfl, h2, hd⟩
      have eg : ∀ args w, (callFunc gf args).run P w = .ok (.enter gf args) w := by
        unfold callable at hcb
        split at hcb
        · rename_i fn hf
          simp only [Bool.and_eq_true, bne_iff_ne] at hcb
          have hb : fn.body.isNone = false := by cases hbb : fn.body <;> simp_all
          intro args w
          simp [callFunc, program, Sem.run, hf, hcb.1]
          intro hn; simp [hn] at hb
        · cases hcb
      have sD := m2.newodd (o := .deferred (some [])) (p := defP) (odd_def _) (fun _ _ => rfl)
      have eD := Ev.newodd m2 (.deferred (some [])) defP
      have hleD := eD.mono m2
      have hsz : (W2.alloc (.deferred (some []))).heap.size = W2.heap.size + 1 := World.size_alloc ..
      have sL := sD.newodd (o := .loop { state := .ready, pending := none, fn := q, tmps := a2.tmps, params := ps, assign, body, defers := W2.heap.size }) (p := loopP n q ps assign body W2.heap.size t2 .ready none) (odd_loop _)
        (fun φ' hφ' => ⟨a2.tmps, rfl, m3.size, fun i => ((m3.rel i).mono hleD).mono hφ'⟩)
      have eL := Ev.newodd sD (.loop { state := .ready, pending := none, fn := q, tmps := a2.tmps, params := ps, assign, body, defers := W2.heap.size }) (loopP n q ps assign body W2.heap.size t2 .ready none)
      have hleL := eL.mono sD
      rw [hsz] at sL eL hleL
      obtain ⟨WL, hWL⟩ : ∃ WL, (W2.alloc (.deferred (some []))).alloc (.loop { state := .ready, pending := none, fn := q, tmps := a2.tmps, params := ps, assign, body, defers := W2.heap.size }) = WL := ⟨_, rfl⟩
      rw [hWL] at sL eL
      refine ⟨W2.heap.size + 1, [markD W2.heap.size], WL, { target := .fn (.func gf) lb', args := #[.func (.yield (W2.heap.size + 1)) #[] #[]] }, WL, gf, #[.func (.yield (W2.heap.size + 1)) #[] #[]] ++ lb', WL, by rw [← hWL]; exact run_enterLoop_outer _ _ _ _ _, ?_, fun _ _ => trivial, ?_, fun h => (by cases h), ?_⟩
      · simp only [resolve, hae]
        simp [go_sem]
      · simp [invoke, go_sem, eg]
      · rw [callsIn_wide]
        generalize φ2.upd H2.length ⟨W2.heap.size, 0, 0, true⟩ = φD at *
        have hll : (H2 ++ [ABlk.odd W2.heap.size defP]).length = H2.length + 1 := by simp
        generalize φD.upd (H2 ++ [ABlk.odd W2.heap.size defP]).length ⟨W2.heap.size + 1, 0, 0, true⟩ = φL at *
        have hlb' : VRA φL lb lb' := ⟨hlb.1, fun i h1 h2 => ((hlb.2 i h1 h2).mono hleD).mono hleL⟩
        have hA2 : VRA φL (#[.func (.yield (W2.heap.size + 1)) #[] #[]] ++ lb) (#[.func (.yield (W2.heap.size + 1)) #[] #[]] ++ lb') := by
          refine VRA.append ⟨rfl, fun i h1 h2 => ?_⟩ hlb'
          have : i = 0 := by simpa using h1
          subst this
          exact .func _ rfl rfl (fun i h1 _ => by simp at h1) (fun i h1 _ => by simp at h1)
        refine (hcall W2.heap.size (W2.heap.size + 1) q _ rfl φL _ _ sL hA2).mono ?_
        rintro e W3 ⟨v, v', H3, φ3, rfl, -, ⟨hD3, hR⟩, hS3, hE3⟩
        have E3 := E2.trans (eD.trans (eL.trans hE3))
        have hle3 : ∀ g bi, φ2 g = some bi → φ3 g = some bi := fun g bi hg => hE3.mono sL g bi (hleL g bi (hleD g bi hg))
        have fin : ∀ (t : ATmps) (a4 : Act) (W4 : World) (φ4 : Phi) (H4 : AH), TR n [markD W2.heap.size] φ4 t a4 → Sim φ4 H4 W4 → Ev φ H W φ4 H4 W4 → rBody P fn H2.length W2.heap.size R .ret t H4 →
            LeavesInM Fence.wide 0 P fn a4.tmps (fun e W' => ∃ v v' H' φ', e = .returned v' ∧ VR φ' v v' ∧ R v H' ∧ Sim φ' H' W' ∧ Ev φ H W φ' H' W') a4.defers .returning W4 := by
          rintro t a4 W4 φ4 H4 r3 r2 r4 ⟨hD4, v, hv, hR⟩
          rw [r3.defers]
          obtain ⟨bi, o, d1, d2, d3, d4, d5⟩ := r2.odd _ _ _ hD4
          have ho : o = .deferred (some []) := d5 φ4 (fun _ _ h => h)
          subst ho
          obtain ⟨s5, e5⟩ := r2.setodd (o' := .deferred none) (p' := anyP) hD4 (odd_def _) (fun _ _ => trivial)
          obtain ⟨v', w1, w2⟩ := aresults_sound s5 r3.rel hv
          exact ⟨(fun h => by cases h), .inl ⟨W2.heap.size, _, rfl, run_takeDeferred d3, v', w2, v, v', _, φ4, rfl, w1, hR, s5, r4.trans e5⟩⟩
        rcases hR with ⟨hL3, hc2⟩ | ⟨hL3, hret⟩
        · obtain ⟨bi, o, d1, d2, d3, d4, d5⟩ := hS3.odd _ _ _ hL3
          obtain ⟨T3, rfl, hs3, hr3⟩ := d5 φ3 (fun _ _ h => h)
          obtain ⟨s5, e5⟩ := hS3.setodd (p' := anyP) (o' := .loop { state := .exhausted, pending := none, fn := q, tmps := T3, params := ps, assign, body, defers := W2.heap.size }) hL3 (odd_loop _) (fun _ _ => trivial)
          have hend := run_endLoop (P := P) d3 (by show LoopState.ready ≠ LoopState.busy; decide)
          refine ⟨none, _, hend, ?_⟩
          have hT5 : TR n [markD W2.heap.size] φ3 t2 { a2 with defers := [markD W2.heap.size] ++ a2.defers } := ⟨by show _ ++ a2.defers = _; rw [m3.defers]; rfl, m3.size, fun i => (m3.rel i).mono hle3⟩
          simp only [Exit.inBlock]
          refine wpIn_mono (hc2 none [markD W2.heap.size] φ3 _ _ s5 hT5) ?_
          rintro e a4 W4 ⟨φ4, t4, H4, r1, r2, r3, r4⟩
          have E4 := E3.trans (e5.trans r4)
          cases e with
          | normal => exact fin t4 a4 W4 φ4 H4 r3 r2 E4 r1
          | ret => exact fin t4 a4 W4 φ4 H4 r3 r2 E4 r1
          | _ => exact r1.elim
        · obtain ⟨bi, o, d1, d2, d3, d4, d5⟩ := hS3.odd _ _ _ hL3
          obtain ⟨T3, rfl, hs3, hr3⟩ := d5 φ3 (fun _ _ h => h)
          obtain ⟨s5, e5⟩ := hS3.setodd (p' := anyP) (o' := .loop { state := .exhausted, pending := some .ret, fn := q, tmps := T3, params := ps, assign, body, defers := W2.heap.size }) hL3 (odd_loop _) (fun _ _ => trivial)
          have hend := run_endLoop (P := P) d3 (by show LoopState.done ≠ LoopState.busy; decide)
          refine ⟨some .ret, _, hend, ?_⟩
          have hT5 : TR n [markD W2.heap.size] φ3 t2 { a2 with defers := [markD W2.heap.size] ++ a2.defers } := ⟨by show _ ++ a2.defers = _; rw [m3.defers]; rfl, m3.size, fun i => (m3.rel i).mono hle3⟩
          refine wpIn_ret ?_
          simp only [Exit.inBlock]
          exact fin t2 _ _ φ3 _ hT5 s5 (E3.trans e5) hret
    | _ => exact m1.elim
  | _ => exact k1.elim
end Go.Proofs.Ytldfnfpinemedaa
