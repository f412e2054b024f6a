/- Blocks that are known, carried along. -/
import Derived.Test.YtldfnfpinemedaaDoorC6
namespace Go.Proofs.YtldfnfpinemedaaDoor
open Go Go.RowKit
set_option linter.unusedSimpArgs false
set_option linter.unusedVariables false
set_option maxRecDepth 4000
/-- Own blocks that are known. -/
def Has (H : AH) : List (Nat × List Value) → Prop
  | [] => True
  | (g, cs) :: r => (g < H.length ∧ H[g]? = some (.own cs) ∧ H.cells g = some cs) ∧ Has H r
theorem Has.cons {H : AH} {g : Nat} {cs : List Value} {l : List (Nat × List Value)} (h : H[g]? = some (.own cs)) (k : Has H l) : Has H ((g, cs) :: l) := ⟨⟨got_lt h, h, AH.cells_own h⟩, k⟩
theorem Has.nil (H : AH) : Has H [] := trivial
theorem Has.mono {H H' : AH} (e : Ext H H') : ∀ {l : List (Nat × List Value)}, Has H l → Has H' l
  | [], _ => trivial
  | (_, _) :: _, h => Has.cons (e _ _ h.1.2.1) (Has.mono e h.2)
theorem Has.push {H : AH} (cs : List Value) {l : List (Nat × List Value)} (h : Has H l) : Has (H ++ [.own cs]) ((H.length, cs) :: l) := Has.cons (gpush _ _) (h.mono (Ext.push _ _))
theorem Has.other {H H' : AH} (q : Nat) (e : ∀ p x, p ≠ q → H[p]? = some x → H'[p]? = some x) : ∀ {l : List (Nat × List Value)}, (∀ p ∈ l, p.1 ≠ q) → Has H l → Has H' l
  | [], _, _ => trivial
  | (_, _) :: _, hn, h => Has.cons (e _ _ (hn _ List.mem_cons_self) h.1.2.1) (Has.other q e (fun p hp => hn p (List.mem_cons_of_mem _ hp)) h.2)
theorem Has.set {H : AH} {g : Nat} {cs cs' : List Value} {l : List (Nat × List Value)} (h : Has H ((g, cs) :: l)) (hn : ∀ p ∈ l, p.1 ≠ g) : Has (H.set g (.own cs')) ((g, cs') :: l) :=
  Has.cons (gset _ _ _ h.1.1) (Has.other g (fun p x hp hx => (gsetn H g p _ (fun e => hp e.symm)).trans hx) hn h.2)
/-- A row of cells that lies within one. -/
theorem SL.within {H : AH} {g : Nat} {cs vs : List Value} (o n e : Nat) (h : H.cells g = some cs) (h2 : (cs.drop o).take n = vs) (h3 : o + n ≤ cs.length) : SL H (.slice (some ⟨g, o, none⟩) n e) vs := by
  have hl : vs.length = n := by rw [← h2, List.length_take, List.length_drop]; omega
  exact SL.of n hl.symm h (by rw [hl]; exact h3) (by rw [hl]; exact h2)
/-- Where a walk stands: all that was there at its start is kept; what is known of own blocks. -/
structure Now (H0 H : AH) (l : List (Nat × List Value)) : Prop where
  ext : Ext H0 H
  has : Has H l
theorem Now.start (H : AH) : Now H H [] := ⟨Ext.refl _, trivial⟩
theorem Now.grow {H0 H H' : AH} {l : List (Nat × List Value)} (h : Now H0 H l) (e : Ext H H') : Now H0 H' l := ⟨h.ext.trans e, h.has.mono e⟩
theorem Now.push {H0 H : AH} {l : List (Nat × List Value)} (h : Now H0 H l) (cs : List Value) : Now H0 (H ++ [.own cs]) ((H.length, cs) :: l) := ⟨h.ext.pushed _, h.has.push cs⟩
theorem Now.know {H0 H : AH} {l : List (Nat × List Value)} (h : Now H0 H l) {g : Nat} {cs : List Value} (k : H[g]? = some (.own cs)) : Now H0 H ((g, cs) :: l) := ⟨h.ext, Has.cons k h.has⟩
theorem Now.but {H0 H H' : AH} {q : Nat} {l : List (Nat × List Value)} (h : Now H0 H l) (e : ∀ p x, p ≠ q → H[p]? = some x → H'[p]? = some x) (hq : H0.length ≤ q) (hn : ∀ p ∈ l, p.1 ≠ q) : Now H0 H' l :=
  ⟨fun p x hx => e p x (by have := got_lt hx; omega) (h.ext p x hx), Has.other q e hn h.has⟩
/-- All blocks but one stay. -/
def But (g : Nat) (H H' : AH) : Prop := ∀ p x, p ≠ g → H[p]? = some x → H'[p]? = some x
theorem But.refl (g : Nat) (H : AH) : But g H H := fun _ _ _ h => h
theorem But.trans {g : Nat} {H H1 H2 : AH} (h : But g H H1) (k : But g H1 H2) : But g H H2 := fun p x hp hx => k p x hp (h p x hp hx)
theorem But.of_ext {g : Nat} {H H1 : AH} (h : Ext H H1) : But g H H1 := fun p x _ hx => h p x hx
theorem But.set {g : Nat} {H H1 : AH} (h : But g H H1) (b : ABlk) : But g H (H1.set g b) := fun p x hp hx => (gsetn H1 g p b (fun e => hp e.symm)).trans (h p x hp hx)
theorem But.ext {g : Nat} {E H H1 : AH} (h : But g H H1) (e : Ext E H) (hg : E.length ≤ g) : Ext E H1 := fun p x hx => h p x (by have := (List.getElem?_eq_some_iff.1 hx).1; omega) (e p x hx)
theorem But.setnew {g q : Nat} {H H1 : AH} (h : But g H H1) (hq : H.length ≤ q) (b : ABlk) : But g H (H1.set q b) := fun p x hp hx => (gsetn H1 q p b (by have := (List.getElem?_eq_some_iff.1 hx).1; omega)).trans (h p x hp hx)
theorem SL.other {H H' : AH} {v : Value} {vs : List Value} {q : Nat} (h : SL H v vs) (hv : ∀ o n e, v ≠ .slice (some ⟨q, o, none⟩) n e) (e : ∀ p x, p ≠ q → H[p]? = some x → H'[p]? = some x) : SL H' v vs := by
  rcases h with h | ⟨g, o, e', rfl, h⟩
  · exact .inl h
  · refine .inr ⟨g, o, e', rfl, ?_⟩
    rcases h with h | ⟨cs, hc, h1, h2⟩
    · exact .inl h
    · have hg : g ≠ q := fun k => hv o vs.length e' (by rw [k])
      refine .inr ⟨cs, ?_, h1, h2⟩
      rcases AH.cells_cases hc with k | k
      · exact AH.cells_own (e _ _ hg k)
      · exact AH.cells_ro (e _ _ hg k)
theorem SL.blk {H : AH} {v : Value} {vs : List Value} (h : SL H v vs) : vs = [] ∨ ∀ q o n e, v = .slice (some ⟨q, o, none⟩) n e → q < H.length := by
  rcases h with ⟨_, h⟩ | ⟨g, o, e', rfl, h | ⟨cs, hc, _, _⟩⟩
  · exact .inl h
  · exact .inl h
  · exact .inr fun q o' n e h => by cases h; exact cells_lt hc
theorem SL.empty {H H' : AH} {v : Value} (h : SL H v []) : SL H' v [] := by
  rcases h with h | ⟨g, o, e', rfl, _⟩
  · exact .inl h
  · exact .inr ⟨g, o, e', rfl, .inl rfl⟩
theorem SL.but {H H' : AH} {v : Value} {vs : List Value} {q : Nat} (h : SL H v vs) (hv : vs = [] ∨ ∀ o n e, v ≠ .slice (some ⟨q, o, none⟩) n e) (e : ∀ p x, p ≠ q → H[p]? = some x → H'[p]? = some x) : SL H' v vs := by
  rcases hv with rfl | hv
  · exact h.empty
  · exact h.other hv e
theorem set_other (H : AH) (g : Nat) (b : ABlk) : ∀ p x, p ≠ g → H[p]? = some x → (H.set g b)[p]? = some x := fun p x hp hx => (gsetn H g p b (fun e => hp e.symm)).trans hx
theorem Has.upd {H : AH} {g : Nat} (hg : g < H.length) (cs' : List Value) : ∀ {l : List (Nat × List Value)}, Has H l → Has (H.set g (.own cs')) (l.map fun p => if p.1 = g then (g, cs') else p)
  | [], _ => trivial
  | (q, cs) :: r, h => by
    rw [List.map_cons]
    by_cases e : q = g
    · rw [if_pos e]; exact Has.cons (gset _ _ _ hg) (Has.upd hg cs' h.2)
    · rw [if_neg e]; exact Has.cons ((gsetn H g q _ (fun k => e k.symm)).trans h.1.2.1) (Has.upd hg cs' h.2)
theorem Now.set {H0 H : AH} {l : List (Nat × List Value)} (N : Now H0 H l) {g : Nat} (hg : g < H.length) (hq : H0.length ≤ g) (cs' : List Value) : Now H0 (H.set g (.own cs')) (l.map fun p => if p.1 = g then (g, cs') else p) :=
  ⟨N.ext.set _ hq, N.has.upd hg cs'⟩
theorem AWp.snapset {P : Program} {n : Nat} {c : Code} {Q : APost} {t : ATmps} {H0 H : AH} {l : List (Nat × List Value)} {g : Nat} {cs' : List Value} (N : Now H0 H l) (hg : g < H.length) (hq : H0.length ≤ g)
    (h : ∀ H', H'.length = H.length → (∀ p x, p ≠ g → H[p]? = some x → H'[p]? = some x) → Now H0 H' (l.map fun p => if p.1 = g then (g, cs') else p) → AWp P n c Q t H') : AWp P n c Q t (H.set g (.own cs')) :=
  h _ (List.length_set) (set_other H g _) (N.set hg hq cs')
theorem ACalls.snapset {P : Program} {f : FuncId} {args : Array Value} {R : Value → AH → Prop} {H0 H : AH} {l : List (Nat × List Value)} {g : Nat} {cs' : List Value} (N : Now H0 H l) (hg : g < H.length) (hq : H0.length ≤ g)
    (h : ∀ H', H'.length = H.length → (∀ p x, p ≠ g → H[p]? = some x → H'[p]? = some x) → Now H0 H' (l.map fun p => if p.1 = g then (g, cs') else p) → ACalls P f args H' R) : ACalls P f args (H.set g (.own cs')) R :=
  h _ (List.length_set) (set_other H g _) (N.set hg hq cs')
theorem len_1 {H : AH} {a0 : List Value} : (H ++ [ABlk.own a0] : AH).length = H.length + 1 := by rw [List.length_append]; rfl
theorem nowP1 {H0 H : AH} {l : List (Nat × List Value)} {a0 : List Value} (N : Now H0 H l) : Now H0 (H ++ [ABlk.own a0]) ((H.length, a0) :: l) := N.push a0
theorem ACalls.snap1 {P : Program} {f : FuncId} {args : Array Value} {R : Value → AH → Prop} {H0 H : AH} {l : List (Nat × List Value)} {a0 : List Value} (N : Now H0 H l)
    (h : ∀ H', Ext H H' → H'.length = H.length + 1 → Now H0 H' ((H.length, a0) :: l) → ACalls P f args H' R) : ACalls P f args (H ++ [ABlk.own a0]) R :=
  h _ (Ext.push _ _) len_1 (nowP1 N)
theorem AWp.snap1 {P : Program} {n : Nat} {c : Code} {Q : APost} {t : ATmps} {H0 H : AH} {l : List (Nat × List Value)} {a0 : List Value} (N : Now H0 H l)
    (h : ∀ H', Ext H H' → H'.length = H.length + 1 → Now H0 H' ((H.length, a0) :: l) → AWp P n c Q t H') : AWp P n c Q t (H ++ [ABlk.own a0]) :=
  h _ (Ext.push _ _) len_1 (nowP1 N)
theorem len_2 {H : AH} {a0 a1 : List Value} : (H ++ [ABlk.own a0] ++ [ABlk.own a1] : AH).length = H.length + 2 := by rw [List.length_append, len_1]; rfl
theorem nowP2 {H0 H : AH} {l : List (Nat × List Value)} {a0 a1 : List Value} (N : Now H0 H l) : Now H0 (H ++ [ABlk.own a0] ++ [ABlk.own a1]) ((H.length + 1, a1) :: (H.length, a0) :: l) := by
  have h := (nowP1 (a0 := a0) N).push a1
  rw [len_1] at h
  exact h
theorem ACalls.snap2 {P : Program} {f : FuncId} {args : Array Value} {R : Value → AH → Prop} {H0 H : AH} {l : List (Nat × List Value)} {a0 a1 : List Value} (N : Now H0 H l)
    (h : ∀ H', Ext H H' → H'.length = H.length + 2 → Now H0 H' ((H.length + 1, a1) :: (H.length, a0) :: l) → ACalls P f args H' R) : ACalls P f args (H ++ [ABlk.own a0] ++ [ABlk.own a1]) R :=
  h _ ((Ext.push _ _).pushed _) len_2 (nowP2 N)
theorem AWp.snap2 {P : Program} {n : Nat} {c : Code} {Q : APost} {t : ATmps} {H0 H : AH} {l : List (Nat × List Value)} {a0 a1 : List Value} (N : Now H0 H l)
    (h : ∀ H', Ext H H' → H'.length = H.length + 2 → Now H0 H' ((H.length + 1, a1) :: (H.length, a0) :: l) → AWp P n c Q t H') : AWp P n c Q t (H ++ [ABlk.own a0] ++ [ABlk.own a1]) :=
  h _ ((Ext.push _ _).pushed _) len_2 (nowP2 N)
theorem len_3 {H : AH} {a0 a1 a2 : List Value} : (H ++ [ABlk.own a0] ++ [ABlk.own a1] ++ [ABlk.own a2] : AH).length = H.length + 3 := by rw [List.length_append, len_2]; rfl
theorem nowP3 {H0 H : AH} {l : List (Nat × List Value)} {a0 a1 a2 : List Value} (N : Now H0 H l) : Now H0 (H ++ [ABlk.own a0] ++ [ABlk.own a1] ++ [ABlk.own a2]) ((H.length + 2, a2) :: (H.length + 1, a1) :: (H.length, a0) :: l) := by
  have h := (nowP2 (a0 := a0) (a1 := a1) N).push a2
  rw [len_2] at h
  exact h
theorem ACalls.snap3 {P : Program} {f : FuncId} {args : Array Value} {R : Value → AH → Prop} {H0 H : AH} {l : List (Nat × List Value)} {a0 a1 a2 : List Value} (N : Now H0 H l)
    (h : ∀ H', Ext H H' → H'.length = H.length + 3 → Now H0 H' ((H.length + 2, a2) :: (H.length + 1, a1) :: (H.length, a0) :: l) → ACalls P f args H' R) : ACalls P f args (H ++ [ABlk.own a0] ++ [ABlk.own a1] ++ [ABlk.own a2]) R :=
  h _ (((Ext.push _ _).pushed _).pushed _) len_3 (nowP3 N)
theorem AWp.snap3 {P : Program} {n : Nat} {c : Code} {Q : APost} {t : ATmps} {H0 H : AH} {l : List (Nat × List Value)} {a0 a1 a2 : List Value} (N : Now H0 H l)
    (h : ∀ H', Ext H H' → H'.length = H.length + 3 → Now H0 H' ((H.length + 2, a2) :: (H.length + 1, a1) :: (H.length, a0) :: l) → AWp P n c Q t H') : AWp P n c Q t (H ++ [ABlk.own a0] ++ [ABlk.own a1] ++ [ABlk.own a2]) :=
  h _ (((Ext.push _ _).pushed _).pushed _) len_3 (nowP3 N)
theorem len_4 {H : AH} {a0 a1 a2 a3 : List Value} : (H ++ [ABlk.own a0] ++ [ABlk.own a1] ++ [ABlk.own a2] ++ [ABlk.own a3] : AH).length = H.length + 4 := by rw [List.length_append, len_3]; rfl
theorem nowP4 {H0 H : AH} {l : List (Nat × List Value)} {a0 a1 a2 a3 : List Value} (N : Now H0 H l) : Now H0 (H ++ [ABlk.own a0] ++ [ABlk.own a1] ++ [ABlk.own a2] ++ [ABlk.own a3]) ((H.length + 3, a3) :: (H.length + 2, a2) :: (H.length + 1, a1) :: (H.length, a0) :: l) := by
  have h := (nowP3 (a0 := a0) (a1 := a1) (a2 := a2) N).push a3
  rw [len_3] at h
  exact h
theorem ACalls.snap4 {P : Program} {f : FuncId} {args : Array Value} {R : Value → AH → Prop} {H0 H : AH} {l : List (Nat × List Value)} {a0 a1 a2 a3 : List Value} (N : Now H0 H l)
    (h : ∀ H', Ext H H' → H'.length = H.length + 4 → Now H0 H' ((H.length + 3, a3) :: (H.length + 2, a2) :: (H.length + 1, a1) :: (H.length, a0) :: l) → ACalls P f args H' R) : ACalls P f args (H ++ [ABlk.own a0] ++ [ABlk.own a1] ++ [ABlk.own a2] ++ [ABlk.own a3]) R :=
  h _ ((((Ext.push _ _).pushed _).pushed _).pushed _) len_4 (nowP4 N)
theorem AWp.snap4 {P : Program} {n : Nat} {c : Code} {Q : APost} {t : ATmps} {H0 H : AH} {l : List (Nat × List Value)} {a0 a1 a2 a3 : List Value} (N : Now H0 H l)
    (h : ∀ H', Ext H H' → H'.length = H.length + 4 → Now H0 H' ((H.length + 3, a3) :: (H.length + 2, a2) :: (H.length + 1, a1) :: (H.length, a0) :: l) → AWp P n c Q t H') : AWp P n c Q t (H ++ [ABlk.own a0] ++ [ABlk.own a1] ++ [ABlk.own a2] ++ [ABlk.own a3]) :=
  h _ ((((Ext.push _ _).pushed _).pushed _).pushed _) len_4 (nowP4 N)
theorem len_5 {H : AH} {a0 a1 a2 a3 a4 : List Value} : (H ++ [ABlk.own a0] ++ [ABlk.own a1] ++ [ABlk.own a2] ++ [ABlk.own a3] ++ [ABlk.own a4] : AH).length = H.length + 5 := by rw [List.length_append, len_4]; rfl
theorem nowP5 {H0 H : AH} {l : List (Nat × List Value)} {a0 a1 a2 a3 a4 : List Value} (N : Now H0 H l) : Now H0 (H ++ [ABlk.own a0] ++ [ABlk.own a1] ++ [ABlk.own a2] ++ [ABlk.own a3] ++ [ABlk.own a4]) ((H.length + 4, a4) :: (H.length + 3, a3) :: (H.length + 2, a2) :: (H.length + 1, a1) :: (H.length, a0) :: l) := by
  have h := (nowP4 (a0 := a0) (a1 := a1) (a2 := a2) (a3 := a3) N).push a4
  rw [len_4] at h
  exact h
theorem ACalls.snap5 {P : Program} {f : FuncId} {args : Array Value} {R : Value → AH → Prop} {H0 H : AH} {l : List (Nat × List Value)} {a0 a1 a2 a3 a4 : List Value} (N : Now H0 H l)
    (h : ∀ H', Ext H H' → H'.length = H.length + 5 → Now H0 H' ((H.length + 4, a4) :: (H.length + 3, a3) :: (H.length + 2, a2) :: (H.length + 1, a1) :: (H.length, a0) :: l) → ACalls P f args H' R) : ACalls P f args (H ++ [ABlk.own a0] ++ [ABlk.own a1] ++ [ABlk.own a2] ++ [ABlk.own a3] ++ [ABlk.own a4]) R :=
  h _ (((((Ext.push _ _).pushed _).pushed _).pushed _).pushed _) len_5 (nowP5 N)
theorem AWp.snap5 {P : Program} {n : Nat} {c : Code} {Q : APost} {t : ATmps} {H0 H : AH} {l : List (Nat × List Value)} {a0 a1 a2 a3 a4 : List Value} (N : Now H0 H l)
    (h : ∀ H', Ext H H' → H'.length = H.length + 5 → Now H0 H' ((H.length + 4, a4) :: (H.length + 3, a3) :: (H.length + 2, a2) :: (H.length + 1, a1) :: (H.length, a0) :: l) → AWp P n c Q t H') : AWp P n c Q t (H ++ [ABlk.own a0] ++ [ABlk.own a1] ++ [ABlk.own a2] ++ [ABlk.own a3] ++ [ABlk.own a4]) :=
  h _ (((((Ext.push _ _).pushed _).pushed _).pushed _).pushed _) len_5 (nowP5 N)
theorem len_6 {H : AH} {a0 a1 a2 a3 a4 a5 : List Value} : (H ++ [ABlk.own a0] ++ [ABlk.own a1] ++ [ABlk.own a2] ++ [ABlk.own a3] ++ [ABlk.own a4] ++ [ABlk.own a5] : AH).length = H.length + 6 := by rw [List.length_append, len_5]; rfl
theorem nowP6 {H0 H : AH} {l : List (Nat × List Value)} {a0 a1 a2 a3 a4 a5 : List Value} (N : Now H0 H l) : Now H0 (H ++ [ABlk.own a0] ++ [ABlk.own a1] ++ [ABlk.own a2] ++ [ABlk.own a3] ++ [ABlk.own a4] ++ [ABlk.own a5]) ((H.length + 5, a5) :: (H.length + 4, a4) :: (H.length + 3, a3) :: (H.length + 2, a2) :: (H.length + 1, a1) :: (H.length, a0) :: l) := by
  have h := (nowP5 (a0 := a0) (a1 := a1) (a2 := a2) (a3 := a3) (a4 := a4) N).push a5
  rw [len_5] at h
  exact h
theorem ACalls.snap6 {P : Program} {f : FuncId} {args : Array Value} {R : Value → AH → Prop} {H0 H : AH} {l : List (Nat × List Value)} {a0 a1 a2 a3 a4 a5 : List Value} (N : Now H0 H l)
    (h : ∀ H', Ext H H' → H'.length = H.length + 6 → Now H0 H' ((H.length + 5, a5) :: (H.length + 4, a4) :: (H.length + 3, a3) :: (H.length + 2, a2) :: (H.length + 1, a1) :: (H.length, a0) :: l) → ACalls P f args H' R) : ACalls P f args (H ++ [ABlk.own a0] ++ [ABlk.own a1] ++ [ABlk.own a2] ++ [ABlk.own a3] ++ [ABlk.own a4] ++ [ABlk.own a5]) R :=
  h _ ((((((Ext.push _ _).pushed _).pushed _).pushed _).pushed _).pushed _) len_6 (nowP6 N)
theorem AWp.snap6 {P : Program} {n : Nat} {c : Code} {Q : APost} {t : ATmps} {H0 H : AH} {l : List (Nat × List Value)} {a0 a1 a2 a3 a4 a5 : List Value} (N : Now H0 H l)
    (h : ∀ H', Ext H H' → H'.length = H.length + 6 → Now H0 H' ((H.length + 5, a5) :: (H.length + 4, a4) :: (H.length + 3, a3) :: (H.length + 2, a2) :: (H.length + 1, a1) :: (H.length, a0) :: l) → AWp P n c Q t H') : AWp P n c Q t (H ++ [ABlk.own a0] ++ [ABlk.own a1] ++ [ABlk.own a2] ++ [ABlk.own a3] ++ [ABlk.own a4] ++ [ABlk.own a5]) :=
  h _ ((((((Ext.push _ _).pushed _).pushed _).pushed _).pushed _).pushed _) len_6 (nowP6 N)
theorem len_7 {H : AH} {a0 a1 a2 a3 a4 a5 a6 : List Value} : (H ++ [ABlk.own a0] ++ [ABlk.own a1] ++ [ABlk.own a2] ++ [ABlk.own a3] ++ [ABlk.own a4] ++ [ABlk.own a5] ++ [ABlk.own a6] : AH).length = H.length + 7 := by rw [List.length_append, len_6]; rfl
theorem nowP7 {H0 H : AH} {l : List (Nat × List Value)} {a0 a1 a2 a3 a4 a5 a6 : List Value} (N : Now H0 H l) : Now H0 (H ++ [ABlk.own a0] ++ [ABlk.own a1] ++ [ABlk.own a2] ++ [ABlk.own a3] ++ [ABlk.own a4] ++ [ABlk.own a5] ++ [ABlk.own a6]) ((H.length + 6, a6) :: (H.length + 5, a5) :: (H.length + 4, a4) :: (H.length + 3, a3) :: (H.length + 2, a2) :: (H.length + 1, a1) :: (H.length, a0) :: l) := by
  have h := (nowP6 (a0 := a0) (a1 := a1) (a2 := a2) (a3 := a3) (a4 := a4) (a5 := a5) N).push a6
  rw [len_6] at h
  exact h
theorem ACalls.snap7 {P : Program} {f : FuncId} {args : Array Value} {R : Value → AH → Prop} {H0 H : AH} {l : List (Nat × List Value)} {a0 a1 a2 a3 a4 a5 a6 : List Value} (N : Now H0 H l)
    (h : ∀ H', Ext H H' → H'.length = H.length + 7 → Now H0 H' ((H.length + 6, a6) :: (H.length + 5, a5) :: (H.length + 4, a4) :: (H.length + 3, a3) :: (H.length + 2, a2) :: (H.length + 1, a1) :: (H.length, a0) :: l) → ACalls P f args H' R) : ACalls P f args (H ++ [ABlk.own a0] ++ [ABlk.own a1] ++ [ABlk.own a2] ++ [ABlk.own a3] ++ [ABlk.own a4] ++ [ABlk.own a5] ++ [ABlk.own a6]) R :=
  h _ (((((((Ext.push _ _).pushed _).pushed _).pushed _).pushed _).pushed _).pushed _) len_7 (nowP7 N)
theorem AWp.snap7 {P : Program} {n : Nat} {c : Code} {Q : APost} {t : ATmps} {H0 H : AH} {l : List (Nat × List Value)} {a0 a1 a2 a3 a4 a5 a6 : List Value} (N : Now H0 H l)
    (h : ∀ H', Ext H H' → H'.length = H.length + 7 → Now H0 H' ((H.length + 6, a6) :: (H.length + 5, a5) :: (H.length + 4, a4) :: (H.length + 3, a3) :: (H.length + 2, a2) :: (H.length + 1, a1) :: (H.length, a0) :: l) → AWp P n c Q t H') : AWp P n c Q t (H ++ [ABlk.own a0] ++ [ABlk.own a1] ++ [ABlk.own a2] ++ [ABlk.own a3] ++ [ABlk.own a4] ++ [ABlk.own a5] ++ [ABlk.own a6]) :=
  h _ (((((((Ext.push _ _).pushed _).pushed _).pushed _).pushed _).pushed _).pushed _) len_7 (nowP7 N)
theorem len_8 {H : AH} {a0 a1 a2 a3 a4 a5 a6 a7 : List Value} : (H ++ [ABlk.own a0] ++ [ABlk.own a1] ++ [ABlk.own a2] ++ [ABlk.own a3] ++ [ABlk.own a4] ++ [ABlk.own a5] ++ [ABlk.own a6] ++ [ABlk.own a7] : AH).length = H.length + 8 := by rw [List.length_append, len_7]; rfl
theorem nowP8 {H0 H : AH} {l : List (Nat × List Value)} {a0 a1 a2 a3 a4 a5 a6 a7 : List Value} (N : Now H0 H l) : Now H0 (H ++ [ABlk.own a0] ++ [ABlk.own a1] ++ [ABlk.own a2] ++ [ABlk.own a3] ++ [ABlk.own a4] ++ [ABlk.own a5] ++ [ABlk.own a6] ++ [ABlk.own a7]) ((H.length + 7, a7) :: (H.length + 6, a6) :: (H.length + 5, a5) :: (H.length + 4, a4) :: (H.length + 3, a3) :: (H.length + 2, a2) :: (H.length + 1, a1) :: (H.length, a0) :: l) := by
  have h := (nowP7 (a0 := a0) (a1 := a1) (a2 := a2) (a3 := a3) (a4 := a4) (a5 := a5) (a6 := a6) N).push a7
  rw [len_7] at h
  exact h
theorem ACalls.snap8 {P : Program} {f : FuncId} {args : Array Value} {R : Value → AH → Prop} {H0 H : AH} {l : List (Nat × List Value)} {a0 a1 a2 a3 a4 a5 a6 a7 : List Value} (N : Now H0 H l)
    (h : ∀ H', Ext H H' → H'.length = H.length + 8 → Now H0 H' ((H.length + 7, a7) :: (H.length + 6, a6) :: (H.length + 5, a5) :: (H.length + 4, a4) :: (H.length + 3, a3) :: (H.length + 2, a2) :: (H.length + 1, a1) :: (H.length, a0) :: l) → ACalls P f args H' R) : ACalls P f args (H ++ [ABlk.own a0] ++ [ABlk.own a1] ++ [ABlk.own a2] ++ [ABlk.own a3] ++ [ABlk.own a4] ++ [ABlk.own a5] ++ [ABlk.own a6] ++ [ABlk.own a7]) R :=
  h _ ((((((((Ext.push _ _).pushed _).pushed _).pushed _).pushed _).pushed _).pushed _).pushed _) len_8 (nowP8 N)
theorem AWp.snap8 {P : Program} {n : Nat} {c : Code} {Q : APost} {t : ATmps} {H0 H : AH} {l : List (Nat × List Value)} {a0 a1 a2 a3 a4 a5 a6 a7 : List Value} (N : Now H0 H l)
    (h : ∀ H', Ext H H' → H'.length = H.length + 8 → Now H0 H' ((H.length + 7, a7) :: (H.length + 6, a6) :: (H.length + 5, a5) :: (H.length + 4, a4) :: (H.length + 3, a3) :: (H.length + 2, a2) :: (H.length + 1, a1) :: (H.length, a0) :: l) → AWp P n c Q t H') : AWp P n c Q t (H ++ [ABlk.own a0] ++ [ABlk.own a1] ++ [ABlk.own a2] ++ [ABlk.own a3] ++ [ABlk.own a4] ++ [ABlk.own a5] ++ [ABlk.own a6] ++ [ABlk.own a7]) :=
  h _ ((((((((Ext.push _ _).pushed _).pushed _).pushed _).pushed _).pushed _).pushed _).pushed _) len_8 (nowP8 N)
def w64 (r : Int) : UInt64 := UInt64.ofNat (r % 18446744073709551616).toNat
theorem wint64 (r : Int) : IntKind.u64.wrap r = ((w64 r).toNat : Int) := by
  rw [wrap64, w64, UInt64.toNat_ofNat']
  omega
end Go.Proofs.YtldfnfpinemedaaDoor
