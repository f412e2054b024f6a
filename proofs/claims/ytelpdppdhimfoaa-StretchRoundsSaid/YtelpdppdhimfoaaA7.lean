/- Words of the proofs: how abstract and machine memory go on together: a block's cells are written, a block is given up, a block is bound anew. -/
import Derived.Test.YtelpdppdhimfoaaA6
import Derived.Laws.IdiomCopy
namespace Go.Proofs.Ytelpdppdhimfoaa
open Go
set_option linter.unusedSimpArgs false
set_option linter.unusedVariables false

def AH.cells (H : AH) (g : Nat) : Option (List Value) :=
  match H[g]? with
  | some (.own cs) | some (.ro cs) => some cs
  | _ => none
theorem AH.cells_own {H : AH} {g : Nat} {cs : List Value} (h : H[g]? = some (.own cs)) : H.cells g = some cs := by simp [AH.cells, h]
theorem AH.cells_ro {H : AH} {g : Nat} {cs : List Value} (h : H[g]? = some (.ro cs)) : H.cells g = some cs := by simp [AH.cells, h]
theorem AH.cells_cases {H : AH} {g : Nat} {cs : List Value} (h : H.cells g = some cs) : H[g]? = some (.own cs) ∨ H[g]? = some (.ro cs) := by
  unfold AH.cells at h
  split at h
  · cases h; left; assumption
  · cases h; right; assumption
  · cases h

theorem Sim.cell {φ : Phi} {H : AH} {W : World} (h : Sim φ H W) {g : Nat} {cs : List Value} {bi : BI} (hg : H.cells g = some cs) (hφ : φ g = some bi) {i : Nat} {v : Value} (hv : cs[i]? = some v) :
    ∃ v', W.cell? ⟨bi.blk, bi.off + i, none⟩ = some v' ∧ VR φ v v' := by
  rcases AH.cells_cases hg with hg | hg
  · obtain ⟨C, ty, fr, h1, _, _, _, h5⟩ := h.own g cs bi hg hφ
    obtain ⟨v', e1, e2⟩ := h5 i v hv
    exact ⟨v', by simp [World.cell?, h1, e1], e2⟩
  · obtain ⟨C, ty, fr, h1, h5⟩ := h.ro g cs bi hg hφ
    obtain ⟨v', e1, e2⟩ := h5 i v hv
    exact ⟨v', by simp [World.cell?, h1, e1], e2⟩

theorem list_choice {p : Nat → Value → Value → Prop} : ∀ (l : List Value), (∀ i v, l[i]? = some v → ∃ v', p i v v') → ∃ l' : List Value, l'.length = l.length ∧ ∀ i v v', l[i]? = some v → l'[i]? = some v' → p i v v' := by
  intro l
  induction l generalizing p with
  | nil => intro _; exact ⟨[], rfl, fun i v v' h => by simp at h⟩
  | cons x l ih =>
    intro h
    obtain ⟨x', hx⟩ := h 0 x rfl
    obtain ⟨l', h1, h2⟩ := ih (p := fun i => p (i + 1)) (fun i v hv => h (i + 1) v (by simpa using hv))
    refine ⟨x' :: l', by simp [h1], fun i v v' hv hv' => ?_⟩
    cases i with
    | zero => simp at hv hv'; subst hv; subst hv'; exact hx
    | succ i => exact h2 i v v' (by simpa using hv) (by simpa using hv')

/-- A run of cells as it is read. -/
theorem Sim.range {φ : Phi} {H : AH} {W : World} (h : Sim φ H W) {g : Nat} {cs : List Value} {bi : BI} (hg : H.cells g = some cs) (hφ : φ g = some bi) (o n : Nat) :
    ∃ vs' : List Value, VRL φ ((cs.drop o).take n) vs' ∧ ∀ (j : Nat) (v : Value), vs'[j]? = some v → W.cell? ((⟨bi.blk, bi.off + o, none⟩ : Addr).add j) = some v := by
  obtain ⟨l', h1, h2⟩ := list_choice (p := fun i v v' => W.cell? ⟨bi.blk, bi.off + (o + i), none⟩ = some v' ∧ VR φ v v') ((cs.drop o).take n) (fun i v hv => by
    rw [List.getElem?_take] at hv
    split at hv
    · rw [List.getElem?_drop] at hv; exact h.cell hg hφ hv
    · cases hv)
  refine ⟨l', ⟨h1.symm, fun i v v' hv hv' => (h2 i v v' hv hv').2⟩, fun j v hv => ?_⟩
  have hlt : j < ((cs.drop o).take n).length := by have := (List.getElem?_eq_some_iff.1 hv).1; omega
  rw [addr_add, Nat.add_assoc]
  exact (h2 j _ v (List.getElem?_eq_getElem hlt) hv).1

theorem setCells_other (b : Nat) : ∀ (vs : List Value) (o : Nat) (W : World) (k : Nat), k ≠ b → (W.setCells b o vs).heap[k]? = W.heap[k]?
  | [], _, _, _, _ => rfl
  | v :: r, o, W, k, hk => by
    rw [World.setCells, setCells_other b r _ _ k hk]
    exact heap_setCell_other W _ k _ hk
theorem setCells_meta (b : Nat) : ∀ (vs : List Value) (o : Nat) (W : World), (W.setCells b o vs).os = W.os ∧ (W.setCells b o vs).tape = W.tape ∧ (W.setCells b o vs).output = W.output ∧ (W.setCells b o vs).heap.size = W.heap.size
  | [], _, _ => ⟨rfl, rfl, rfl, rfl⟩
  | v :: r, o, W => by
    obtain ⟨h1, h2, h3, h4⟩ := setCells_meta b r (o + 1) (W.setCell ⟨b, o, none⟩ v)
    rw [World.setCells]
    exact ⟨h1, h2, h3, by rw [h4]; simp [World.setCell]⟩
theorem setCells_heap (b : Nat) : ∀ (vs : List Value) (o : Nat) (W : World) (C : Array Value) (ty : TypeId) (fr : Nat × Nat), W.heap[b]? = some (.cells C ty fr) → o + vs.length ≤ C.size →
    ∃ C' : Array Value, (W.setCells b o vs).heap[b]? = some (.cells C' ty fr) ∧ C'.size = C.size ∧ (∀ j, (j < o ∨ o + vs.length ≤ j) → C'[j]? = C[j]?) ∧ (∀ (j : Nat) (v : Value), vs[j]? = some v → C'[o + j]? = some v)
  | [], o, W, C, ty, fr, h, _ => ⟨C, h, rfl, fun _ _ => rfl, fun j v hv => by simp at hv⟩
  | x :: r, o, W, C, ty, fr, h, hl => by
    have h1 : (W.setCell ⟨b, o, none⟩ x).heap[b]? = some (.cells (C.setIfInBounds o x) ty fr) := by
      rw [setCell_eq_setRow W b o C ty fr x h]
      exact setRow_heap W b C _ ty fr h
    simp only [List.length_cons] at hl
    obtain ⟨C', e1, e2, e3, e4⟩ := setCells_heap b r (o + 1) _ _ ty fr h1 (by simp; omega)
    refine ⟨C', by rw [World.setCells]; exact e1, by simpa using e2, fun j hj => ?_, fun j v hv => ?_⟩
    · simp only [List.length_cons] at hj
      rw [e3 j (by omega), Array.getElem?_setIfInBounds_ne (by omega)]
    · cases j with
      | zero =>
        simp at hv
        subst hv
        rw [Nat.add_zero, e3 o (by omega), Array.getElem?_setIfInBounds_self_of_lt (by omega)]
      | succ j =>
        rw [show o + (j + 1) = o + 1 + j by omega]
        exact e4 j v (by simpa using hv)

theorem own_lt {H : AH} {g : Nat} {b : ABlk} (h : H[g]? = some b) : g < H.length := (List.getElem?_eq_some_iff.1 h).1
theorem set_get {H : AH} {g x : Nat} {b c : ABlk} (h : (H.set g b)[x]? = some c) (hg : g < H.length) : (x = g ∧ c = b) ∨ (x ≠ g ∧ H[x]? = some c) := by
  by_cases e : x = g
  · subst e
    rw [List.getElem?_set_self hg] at h
    cases h
    exact .inl ⟨rfl, rfl⟩
  · rw [List.getElem?_set_ne (fun he => e he.symm)] at h
    exact .inr ⟨e, h⟩

/-- The cells of an owned block are written. -/
theorem Sim.update {φ : Phi} {H : AH} {W W' : World} (h : Sim φ H W) {g : Nat} {cs cs' : List Value} {bi : BI} (hg : H[g]? = some (.own cs)) (hφ : φ g = some bi) (hsz : W'.heap.size = W.heap.size)
    (hoth : ∀ b, b ≠ bi.blk → W'.heap[b]? = W.heap[b]?)
    (hblk : ∃ (C : Array Value) (ty : TypeId) (fr : Nat × Nat), W'.heap[bi.blk]? = some (.cells C ty fr) ∧ C.size = bi.room ∧ (fr.1 = fr.2 ∨ C.size ≤ fr.1) ∧ bi.off + cs'.length ≤ C.size ∧ ∀ i v, cs'[i]? = some v → ∃ v', C[bi.off + i]? = some v' ∧ VR φ v v') :
    Sim φ (H.set g (.own cs')) W' := by
  have hlt := own_lt hg
  refine ⟨fun x b hx => ⟨by simpa using (h.dom x b hx).1, by rw [hsz]; exact (h.dom x b hx).2⟩, fun x c b h1 h2 => ?_, fun x c b h1 h2 => ?_, fun x y c b b' h1 h2 h3 h4 h5 => ?_⟩
  · rcases set_get h1 hlt with ⟨rfl, e⟩ | ⟨hne, h1⟩
    · cases e
      rw [hφ] at h2; cases h2
      exact hblk
    · have hb : b.blk ≠ bi.blk := (h.sep g x cs bi b hg hφ hne h2 (by rw [h1]; simp)).symm
      obtain ⟨C, ty, fr, e1, e2⟩ := h.own x c b h1 h2
      exact ⟨C, ty, fr, by rw [hoth _ hb]; exact e1, e2⟩
  · rcases set_get h1 hlt with ⟨rfl, e⟩ | ⟨hne, h1⟩
    · cases e
    · have hb : b.blk ≠ bi.blk := (h.sep g x cs bi b hg hφ hne h2 (by rw [h1]; simp)).symm
      obtain ⟨C, ty, fr, e1, e2⟩ := h.ro x c b h1 h2
      exact ⟨C, ty, fr, by rw [hoth _ hb]; exact e1, e2⟩
  · have h5' : H[y]? ≠ some .dead := fun e => by
      by_cases hyg : y = g
      · subst hyg; rw [hg] at e; cases e
      · rw [List.getElem?_set_ne (fun he => hyg he.symm)] at h5; exact h5 e
    rcases set_get h1 hlt with ⟨rfl, e⟩ | ⟨hne, h1⟩
    · exact h.sep x y cs b b' hg h2 h3 h4 h5'
    · exact h.sep x y c b b' h1 h2 h3 h4 h5'
theorem Ev.update {φ : Phi} {H : AH} {W W' : World} {g : Nat} {cs : List Value} {bi : BI} {b : ABlk} (hg : H[g]? = some (.own cs)) (hφ : φ g = some bi) (hsz : W'.heap.size = W.heap.size)
    (hoth : ∀ b, b ≠ bi.blk → W'.heap[b]? = W.heap[b]?) (h1 : W'.os = W.os) (h2 : W'.tape = W.tape) (h3 : W'.output = W.output) : Ev φ H W φ (H.set g b) W' := by
  have hlt := own_lt hg
  refine ⟨h1, h2, h3, by omega, by simp, fun _ _ => rfl, fun x hx hn => ?_, fun k hk hown => hoth k (fun e => hown g cs bi hg hφ e.symm), fun x c b' e1 e2 e3 => ?_⟩
  · rw [List.getElem?_set_ne]
    rintro rfl
    rw [hφ] at hn; cases hn
  · rcases set_get e1 hlt with ⟨rfl, _⟩ | ⟨_, e1⟩
    · exact ⟨x, cs, b', hg, e2, rfl⟩
    · exact ⟨x, c, b', e1, e2, rfl⟩
/-- A block is given up. -/
theorem Sim.kill {φ : Phi} {H : AH} {W : World} (h : Sim φ H W) (g : Nat) (hlt : g < H.length) : Sim φ (H.set g .dead) W := by
  refine ⟨fun x b hx => ⟨by simpa using (h.dom x b hx).1, (h.dom x b hx).2⟩, fun x c b h1 h2 => ?_, fun x c b h1 h2 => ?_, fun x y c b b' h1 h2 h3 h4 h5 => ?_⟩
  · rcases set_get h1 hlt with ⟨rfl, e⟩ | ⟨hne, h1⟩
    · cases e
    · exact h.own x c b h1 h2
  · rcases set_get h1 hlt with ⟨rfl, e⟩ | ⟨hne, h1⟩
    · cases e
    · exact h.ro x c b h1 h2
  · rcases set_get h1 hlt with ⟨rfl, e⟩ | ⟨hne, h1⟩
    · cases e
    · refine h.sep x y c b b' h1 h2 h3 h4 fun e => h5 ?_
      by_cases hyg : y = g
      · subst hyg; exact List.getElem?_set_self hlt
      · rw [List.getElem?_set_ne (fun he => hyg he.symm)]; exact e
/-- A new abstract block takes over a block of the machine that nobody owns any more. -/
theorem Sim.rebind {φ : Phi} {H : AH} {W W' : World} (h : Sim φ H W) {g b off room : Nat} {cs' : List Value} (hg : H[g]? = some (.own cs')) (hφ : φ g = none) (hb : b < W.heap.size)
    (hfree : ∀ x bi, φ x = some bi → H[x]? ≠ some .dead → bi.blk ≠ b) (hsz : W'.heap.size = W.heap.size) (hoth : ∀ k, k ≠ b → W'.heap[k]? = W.heap[k]?)
    (hblk : ∃ (C : Array Value) (ty : TypeId) (fr : Nat × Nat), W'.heap[b]? = some (.cells C ty fr) ∧ C.size = room ∧ (fr.1 = fr.2 ∨ C.size ≤ fr.1) ∧ off + cs'.length ≤ C.size ∧ ∀ i v, cs'[i]? = some v → ∃ v', C[off + i]? = some v' ∧ VR φ v v') :
    Sim (φ.upd g ⟨b, off, room⟩) H W' := by
  have hle := Phi.upd_le (bi := ⟨b, off, room⟩) hφ
  refine ⟨fun x bi hx => ?_, fun x c bi h1 hx => ?_, fun x c bi h1 hx => ?_, fun x y c bi bi' h1 hx hne hy h5 => ?_⟩
  · by_cases e : x = g
    · subst e
      rw [Phi.upd_self] at hx; cases hx
      exact ⟨own_lt hg, by rw [hsz]; exact hb⟩
    · rw [Phi.upd_ne e] at hx
      exact ⟨(h.dom x bi hx).1, by rw [hsz]; exact (h.dom x bi hx).2⟩
  · by_cases e : x = g
    · subst e
      rw [Phi.upd_self] at hx; cases hx
      rw [hg] at h1; cases h1
      obtain ⟨C, ty, fr, e1, e2, e3, e4, e5⟩ := hblk
      refine ⟨C, ty, fr, e1, e2, e3, e4, fun i v hv => ?_⟩
      obtain ⟨v', d1, d2⟩ := e5 i v hv
      exact ⟨v', d1, d2.mono hle⟩
    · rw [Phi.upd_ne e] at hx
      obtain ⟨C, ty, fr, d1, d2, d3, d4, d5⟩ := h.own x c bi h1 hx
      refine ⟨C, ty, fr, by rw [hoth _ (hfree x bi hx (by rw [h1]; simp))]; exact d1, d2, d3, d4, fun i v hv => ?_⟩
      obtain ⟨v', e1, e2⟩ := d5 i v hv
      exact ⟨v', e1, e2.mono hle⟩
  · have e : x ≠ g := by rintro rfl; rw [hg] at h1; cases h1
    rw [Phi.upd_ne e] at hx
    obtain ⟨C, ty, fr, d1, d5⟩ := h.ro x c bi h1 hx
    refine ⟨C, ty, fr, by rw [hoth _ (hfree x bi hx (by rw [h1]; simp))]; exact d1, fun i v hv => ?_⟩
    obtain ⟨v', e1, e2⟩ := d5 i v hv
    exact ⟨v', e1, e2.mono hle⟩
  · by_cases e : x = g
    · subst e
      rw [Phi.upd_self] at hx; cases hx
      rw [Phi.upd_ne hne] at hy
      exact (hfree y bi' hy h5).symm
    · rw [Phi.upd_ne e] at hx
      by_cases e' : y = g
      · subst e'
        rw [Phi.upd_self] at hy; cases hy
        exact hfree x bi hx (by rw [h1]; simp)
      · rw [Phi.upd_ne e'] at hy
        exact h.sep x y c bi bi' h1 hx hne hy h5
end Go.Proofs.Ytelpdppdhimfoaa
