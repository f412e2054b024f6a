/- Words of the proofs: abstract memory. Values with abstract block numbers, a list of abstract blocks, how they stand for the machine's memory ('Sim'), and how both may go on ('Ev'). -/
import Derived.WalkKit
import Derived.WalkSpells
import Derived.Orders
import Derived.Deep.AppendSrc
namespace Go.Proofs.Ytelpdppdhimfoaa
open Go

/-- Where an abstract block lies: the machine's block, the place of its first cell, the size of the machine's block. -/
structure BI where
  blk : Nat
  off : Nat
  room : Nat

inductive ABlk where
  | own (cs : List Value)
  | ro (cs : List Value)
  | dead

abbrev AH := List ABlk
abbrev Phi := Nat → Option BI

def skipped : Value := .tuple #[.tuple #[]]

/-- An abstract value stands for a value of the machine. 'undef' stands for anything. A slice's abstract 'cap' is 0, or the size of its elements (it may then be appended to in place). -/
inductive VR (φ : Phi) : Value → Value → Prop
  | any (v' : Value) : VR φ undef v'
  | skip : VR φ skipped undef
  | bool (b : Bool) : VR φ (.bool b) (.bool b)
  | int (k : IntKind) (n : Int) : VR φ (.int k n) (.int k n)
  | string (s : ByteArray) : VR φ (.string s) (.string s)
  | nilptr : VR φ (.pointer none) (.pointer none)
  | ptr {g o : Nat} {bi : BI} (h : φ g = some bi) : VR φ (.pointer (some ⟨g, o, none⟩)) (.pointer (some ⟨bi.blk, bi.off + o, none⟩))
  | nilslice : VR φ (.slice none 0 0) (.slice none 0 0)
  | empty (a a' : Addr) (c' : Nat) : VR φ (.slice (some a) 0 0) (.slice (some a') 0 c')
  | slice {g o n e c' : Nat} {bi : BI} (h : φ g = some bi) (hn : n ≤ c') (hr : e = 0 ∨ bi.off + o + c' * e ≤ bi.room) :
      VR φ (.slice (some ⟨g, o, none⟩) n e) (.slice (some ⟨bi.blk, bi.off + o, none⟩) n c')
  | func (fn : Fn) {cs cs' ds ds' : Array Value} (h1 : cs.size = cs'.size) (h2 : ds.size = ds'.size)
      (hc : ∀ i (h : i < cs.size) (h' : i < cs'.size), VR φ cs[i] cs'[i]) (hd : ∀ i (h : i < ds.size) (h' : i < ds'.size), VR φ ds[i] ds'[i]) : VR φ (.func fn cs ds) (.func fn cs' ds')
  | nilFunc : VR φ .nilFunc .nilFunc
  | nilIface : VR φ .nilIface .nilIface
  | iface (t : TypeId) {v v' : Value} (h : VR φ v v') : VR φ (.iface t v) (.iface t v')
  | agg {cs cs' : Array Value} (hs : cs.size = cs'.size) (h : ∀ i (h : i < cs.size) (h' : i < cs'.size), VR φ cs[i] cs'[i]) : VR φ (.agg cs) (.agg cs')
  | tuple {cs cs' : Array Value} (hs : cs.size = cs'.size) (h : ∀ i (h : i < cs.size) (h' : i < cs'.size), VR φ cs[i] cs'[i]) : VR φ (.tuple cs) (.tuple cs')

theorem VR.mono {φ φ' : Phi} (hφ : ∀ g bi, φ g = some bi → φ' g = some bi) {v v' : Value} (h : VR φ v v') : VR φ' v v' := by
  induction h with
  | any v' => exact .any _
  | skip => exact .skip
  | bool b => exact .bool b
  | int k n => exact .int k n
  | string s => exact .string s
  | nilptr => exact .nilptr
  | ptr h => exact .ptr (hφ _ _ h)
  | nilslice => exact .nilslice
  | empty a a' c' => exact .empty a a' c'
  | slice h hn hr => exact .slice (hφ _ _ h) hn hr
  | func fn h1 h2 _ _ ih1 ih2 => exact .func fn h1 h2 ih1 ih2
  | nilFunc => exact .nilFunc
  | nilIface => exact .nilIface
  | iface t _ ih => exact .iface t ih
  | agg hs _ ih => exact .agg hs ih
  | tuple hs _ ih => exact .tuple hs ih

/-- A row of abstract values stands for a row of values. -/
def VRL (φ : Phi) (vs vs' : List Value) : Prop := vs.length = vs'.length ∧ ∀ (i : Nat) (v v' : Value), vs[i]? = some v → vs'[i]? = some v' → VR φ v v'

theorem VRL.mono {φ φ' : Phi} (hφ : ∀ g bi, φ g = some bi → φ' g = some bi) {v v' : List Value} (h : VRL φ v v') : VRL φ' v v' :=
  ⟨h.1, fun i x y hx hy => (h.2 i x y hx hy).mono hφ⟩
theorem VRL.nil {φ : Phi} : VRL φ [] [] := ⟨rfl, fun i v v' h => by simp at h⟩
theorem VRL.cons {φ : Phi} {v v' : Value} {vs vs' : List Value} (h : VR φ v v') (hs : VRL φ vs vs') : VRL φ (v :: vs) (v' :: vs') := by
  refine ⟨by simp [hs.1], fun i x y hx hy => ?_⟩
  cases i with
  | zero => simp at hx hy; subst hx; subst hy; exact h
  | succ i => exact hs.2 i x y (by simpa using hx) (by simpa using hy)
theorem VRL.append {φ : Phi} {a a' b b' : List Value} (h : VRL φ a a') (k : VRL φ b b') : VRL φ (a ++ b) (a' ++ b') := by
  refine ⟨by simp [h.1, k.1], fun i x y hx hy => ?_⟩
  rcases Nat.lt_or_ge i a.length with hi | hi
  · rw [List.getElem?_append_left hi] at hx
    rw [List.getElem?_append_left (by rw [← h.1]; exact hi)] at hy
    exact h.2 i x y hx hy
  · rw [List.getElem?_append_right hi] at hx
    rw [List.getElem?_append_right (by rw [← h.1]; exact hi), ← h.1] at hy
    exact k.2 _ x y hx hy
theorem VRL.get {φ : Phi} {a a' : List Value} (h : VRL φ a a') {i : Nat} {v : Value} (hv : a[i]? = some v) : ∃ v', a'[i]? = some v' ∧ VR φ v v' := by
  have hi : i < a.length := (List.getElem?_eq_some_iff.1 hv).1
  have hi' : i < a'.length := by rw [← h.1]; exact hi
  exact ⟨a'[i], List.getElem?_eq_getElem hi', h.2 i v _ hv (List.getElem?_eq_getElem hi')⟩
theorem VRL.take {φ : Phi} {a a' : List Value} (h : VRL φ a a') (n : Nat) : VRL φ (a.take n) (a'.take n) := by
  refine ⟨by simp [h.1], fun i x y hx hy => ?_⟩
  rw [List.getElem?_take] at hx hy
  split at hx
  · rename_i hi; rw [if_pos hi] at hy; exact h.2 i x y hx hy
  · cases hx
theorem VRL.drop {φ : Phi} {a a' : List Value} (h : VRL φ a a') (n : Nat) : VRL φ (a.drop n) (a'.drop n) := by
  refine ⟨by simp [h.1], fun i x y hx hy => ?_⟩
  rw [List.getElem?_drop] at hx hy
  exact h.2 _ x y hx hy
theorem VRL.set {φ : Phi} {a a' : List Value} (h : VRL φ a a') (n : Nat) {v v' : Value} (hv : VR φ v v') : VRL φ (a.set n v) (a'.set n v') := by
  refine ⟨by simp [h.1], fun i x y hx hy => ?_⟩
  rw [List.getElem?_set] at hx hy
  split at hx
  · rename_i hi
    subst hi
    split at hx
    · rename_i hl
      rw [if_pos rfl, if_pos (by rw [← h.1]; exact hl)] at hy
      injection hx with hx; injection hy with hy; subst hx; subst hy; exact hv
    · cases hx
  · rename_i hi
    rw [if_neg hi] at hy
    exact h.2 i x y hx hy

/-- The abstract blocks stand for the machine's memory. -/
structure Sim (φ : Phi) (H : AH) (W : World) : Prop where
  dom : ∀ g bi, φ g = some bi → g < H.length ∧ bi.blk < W.heap.size
  own : ∀ g cs bi, H[g]? = some (.own cs) → φ g = some bi → ∃ (C : Array Value) (ty : TypeId) (fr : Nat × Nat), W.heap[bi.blk]? = some (.cells C ty fr) ∧ C.size = bi.room ∧
    (fr.1 = fr.2 ∨ C.size ≤ fr.1) ∧ bi.off + cs.length ≤ C.size ∧ ∀ i v, cs[i]? = some v → ∃ v', C[bi.off + i]? = some v' ∧ VR φ v v'
  ro : ∀ g cs bi, H[g]? = some (.ro cs) → φ g = some bi → ∃ (C : Array Value) (ty : TypeId) (fr : Nat × Nat), W.heap[bi.blk]? = some (.cells C ty fr) ∧
    ∀ i v, cs[i]? = some v → ∃ v', C[bi.off + i]? = some v' ∧ VR φ v v'
  sep : ∀ g g' cs bi bi', H[g]? = some (.own cs) → φ g = some bi → g' ≠ g → φ g' = some bi' → H[g']? ≠ some .dead → bi.blk ≠ bi'.blk

/-- How abstract and machine memory may go on: what is not an owned block stays as it is. -/
structure Ev (φ : Phi) (H : AH) (W : World) (φ' : Phi) (H' : AH) (W' : World) : Prop where
  os : W'.os = W.os
  tape : W'.tape = W.tape
  output : W'.output = W.output
  size : W.heap.size ≤ W'.heap.size
  len : H.length ≤ H'.length
  phi : ∀ g, g < H.length → φ' g = φ g
  absf : ∀ g, g < H.length → φ g = none → H'[g]? = H[g]?
  fr : ∀ b, b < W.heap.size → (∀ g cs bi, H[g]? = some (.own cs) → φ g = some bi → bi.blk ≠ b) → W'.heap[b]? = W.heap[b]?
  fresh : ∀ g cs bi, H'[g]? = some (.own cs) → φ' g = some bi → bi.blk < W.heap.size → ∃ g0 cs0 bi0, H[g0]? = some (.own cs0) ∧ φ g0 = some bi0 ∧ bi0.blk = bi.blk

theorem Ev.refl (φ : Phi) (H : AH) (W : World) : Ev φ H W φ H W :=
  ⟨rfl, rfl, rfl, Nat.le_refl _, Nat.le_refl _, fun _ _ => rfl, fun _ _ _ => rfl, fun _ _ _ => rfl, fun g cs bi h1 h2 _ => ⟨g, cs, bi, h1, h2, rfl⟩⟩
theorem Ev.trans {φ φ' φ'' : Phi} {H H' H'' : AH} {W W' W'' : World} (h : Ev φ H W φ' H' W') (k : Ev φ' H' W' φ'' H'' W'') : Ev φ H W φ'' H'' W'' where
  os := k.os.trans h.os
  tape := k.tape.trans h.tape
  output := k.output.trans h.output
  size := Nat.le_trans h.size k.size
  len := Nat.le_trans h.len k.len
  phi g hg := (k.phi g (Nat.lt_of_lt_of_le hg h.len)).trans (h.phi g hg)
  absf g hg hn := (k.absf g (Nat.lt_of_lt_of_le hg h.len) ((h.phi g hg).trans hn)).trans (h.absf g hg hn)
  fr b hb hown := by
    refine (k.fr b (Nat.lt_of_lt_of_le hb h.size) fun g cs bi h1 h2 he => ?_).trans (h.fr b hb hown)
    obtain ⟨g0, cs0, bi0, e1, e2, e3⟩ := h.fresh g cs bi h1 h2 (by rw [he]; exact hb)
    exact hown g0 cs0 bi0 e1 e2 (e3.trans he)
  fresh g cs bi h1 h2 hb := by
    obtain ⟨g1, cs1, bi1, e1, e2, e3⟩ := k.fresh g cs bi h1 h2 (Nat.lt_of_lt_of_le hb h.size)
    obtain ⟨g0, cs0, bi0, d1, d2, d3⟩ := h.fresh g1 cs1 bi1 e1 e2 (by rw [e3]; exact hb)
    exact ⟨g0, cs0, bi0, d1, d2, d3.trans e3⟩
theorem Ev.mono {φ φ' : Phi} {H H' : AH} {W W' : World} (h : Ev φ H W φ' H' W') (hS : Sim φ H W) : ∀ g bi, φ g = some bi → φ' g = some bi :=
  fun g _ hg => (h.phi g (hS.dom g _ hg).1).trans hg

/-- A draw changes nothing that is spoken of. -/
theorem Sim.heap {φ : Phi} {H : AH} {W W' : World} (h : Sim φ H W) (e : W'.heap = W.heap) : Sim φ H W' :=
  ⟨fun g bi hg => by rw [e]; exact h.dom g bi hg, fun g cs bi h1 h2 => by rw [e]; exact h.own g cs bi h1 h2, fun g cs bi h1 h2 => by rw [e]; exact h.ro g cs bi h1 h2, h.sep⟩
theorem Ev.heap {φ : Phi} {H : AH} {W W' : World} (e : W'.heap = W.heap) (h1 : W'.os = W.os) (h2 : W'.tape = W.tape) (h3 : W'.output = W.output) : Ev φ H W φ H W' :=
  ⟨h1, h2, h3, by rw [e]; exact Nat.le_refl _, Nat.le_refl _, fun _ _ => rfl, fun _ _ _ => rfl, fun _ _ _ => by rw [e], fun g cs bi h1 h2 _ => ⟨g, cs, bi, h1, h2, rfl⟩⟩

theorem Sim.fresh_none {φ : Phi} {H : AH} {W : World} (h : Sim φ H W) {g : Nat} (hg : H.length ≤ g) : φ g = none := by
  cases e : φ g with
  | none => rfl
  | some bi => exact absurd (h.dom g bi e).1 (by omega)

theorem get_push_lt {H : AH} {b : ABlk} {g : Nat} (hg : g < H.length) : (H ++ [b])[g]? = H[g]? := List.getElem?_append_left hg
theorem get_push_eq {H : AH} {b : ABlk} : (H ++ [b])[H.length]? = some b := by simp

/-- A new abstract block that stands for nothing yet. -/
theorem Sim.push {φ : Phi} {H : AH} {W : World} (h : Sim φ H W) (b : ABlk) : Sim φ (H ++ [b]) W := by
  have key : ∀ g x bi, (H ++ [b])[g]? = some x → φ g = some bi → H[g]? = some x := fun g x bi hx hg => by
    rwa [get_push_lt (h.dom g bi hg).1] at hx
  refine ⟨fun g bi hg => ⟨by have := (h.dom g bi hg).1; simp; omega, (h.dom g bi hg).2⟩, fun g cs bi h1 h2 => h.own g cs bi (key _ _ _ h1 h2) h2, fun g cs bi h1 h2 => h.ro g cs bi (key _ _ _ h1 h2) h2, fun g g' cs bi bi' h1 h2 h3 h4 h5 => ?_⟩
  refine h.sep g g' cs bi bi' (key _ _ _ h1 h2) h2 h3 h4 ?_
  rwa [get_push_lt (h.dom g' bi' h4).1] at h5
theorem Ev.push {φ : Phi} {H : AH} {W : World} (h : Sim φ H W) (b : ABlk) : Ev φ H W φ (H ++ [b]) W := by
  refine ⟨rfl, rfl, rfl, Nat.le_refl _, by simp, fun _ _ => rfl, fun g hg _ => get_push_lt hg, fun _ _ _ => rfl, fun g cs bi h1 h2 _ => ⟨g, cs, bi, ?_, h2, rfl⟩⟩
  rwa [get_push_lt (h.dom g bi h2).1] at h1

def Phi.upd (φ : Phi) (g : Nat) (bi : BI) : Phi := fun x => if x = g then some bi else φ x
theorem Phi.upd_le {φ : Phi} {g : Nat} {bi : BI} (hg : φ g = none) : ∀ x b, φ x = some b → φ.upd g bi x = some b := by
  intro x b hx
  unfold Phi.upd
  by_cases e : x = g
  · subst e; rw [hg] at hx; cases hx
  · rw [if_neg e]; exact hx
theorem Phi.upd_self {φ : Phi} {g : Nat} {bi : BI} : φ.upd g bi g = some bi := by simp [Phi.upd]
theorem Phi.upd_ne {φ : Phi} {g x : Nat} {bi : BI} (h : x ≠ g) : φ.upd g bi x = φ x := by simp [Phi.upd, h]

theorem alloc_heap_new (w : World) (o : Obj) : (w.alloc o).heap[w.heap.size]? = some o := by
  show (w.heap.push o)[w.heap.size]? = some o
  simp
theorem alloc_heap_old (w : World) (o : Obj) (i : Nat) (h : i < w.heap.size) : (w.alloc o).heap[i]? = w.heap[i]? := by
  show (w.heap.push o)[i]? = w.heap[i]?
  rw [Array.getElem?_push, if_neg (Nat.ne_of_lt h)]
theorem alloc_size (w : World) (o : Obj) : (w.alloc o).heap.size = w.heap.size + 1 := by show (w.heap.push o).size = _; simp

/-- An abstract block that stands for nothing yet gets a new block of the machine. -/
theorem Sim.concretize {φ : Phi} {H : AH} {W : World} (h : Sim φ H W) {g : Nat} {cs : List Value} {C : Array Value} {ty : TypeId} {fr : Nat × Nat} (hg : H[g]? = some (.own cs)) (hφ : φ g = none)
    (hfr : fr.1 = fr.2 ∨ C.size ≤ fr.1) (hl : cs.length ≤ C.size) (hc : ∀ (i : Nat) (v : Value), cs[i]? = some v → ∃ v', C[i]? = some v' ∧ VR φ v v') :
    Sim (φ.upd g ⟨W.heap.size, 0, C.size⟩) H (W.alloc (.cells C ty fr)) := by
  have hle := Phi.upd_le (bi := ⟨W.heap.size, 0, C.size⟩) hφ
  refine ⟨fun x bi hx => ?_, fun x cs' bi h1 hx => ?_, fun x cs' bi h1 hx => ?_, fun x y cs' bi bi' h1 hx hne hy h5 => ?_⟩
  · by_cases e : x = g
    · subst e
      rw [Phi.upd_self] at hx; cases hx
      exact ⟨(List.getElem?_eq_some_iff.1 hg).1, by rw [alloc_size]; exact Nat.lt_succ_self _⟩
    · rw [Phi.upd_ne e] at hx
      exact ⟨(h.dom x bi hx).1, by rw [alloc_size]; have := (h.dom x bi hx).2; omega⟩
  · by_cases e : x = g
    · subst e
      rw [Phi.upd_self] at hx; cases hx
      rw [hg] at h1; cases h1
      refine ⟨C, ty, fr, alloc_heap_new _ _, rfl, hfr, by simpa using hl, fun i v hv => ?_⟩
      obtain ⟨v', h1, h2⟩ := hc i v hv
      exact ⟨v', by simpa using h1, h2.mono hle⟩
    · rw [Phi.upd_ne e] at hx
      obtain ⟨D, ty', fr', d1, d2, d3, d4, d5⟩ := h.own x cs' bi h1 hx
      refine ⟨D, ty', fr', by rw [alloc_heap_old _ _ _ (h.dom x bi hx).2]; exact d1, d2, d3, d4, fun i v hv => ?_⟩
      obtain ⟨v', e1, e2⟩ := d5 i v hv
      exact ⟨v', e1, e2.mono hle⟩
  · have e : x ≠ g := by rintro rfl; rw [hg] at h1; cases h1
    rw [Phi.upd_ne e] at hx
    obtain ⟨D, ty', fr', d1, d5⟩ := h.ro x cs' bi h1 hx
    refine ⟨D, ty', fr', by rw [alloc_heap_old _ _ _ (h.dom x bi hx).2]; exact d1, fun i v hv => ?_⟩
    obtain ⟨v', e1, e2⟩ := d5 i v hv
    exact ⟨v', e1, e2.mono hle⟩
  · by_cases e : x = g
    · subst e
      rw [Phi.upd_self] at hx; cases hx
      rw [Phi.upd_ne hne] at hy
      have := (h.dom y bi' hy).2
      show W.heap.size ≠ bi'.blk
      omega
    · rw [Phi.upd_ne e] at hx
      by_cases e' : y = g
      · subst e'
        rw [Phi.upd_self] at hy; cases hy
        have := (h.dom x bi hx).2
        show bi.blk ≠ W.heap.size
        omega
      · rw [Phi.upd_ne e'] at hy
        exact h.sep x y cs' bi bi' h1 hx hne hy h5
theorem Ev.concretize {φ : Phi} {H : AH} {W : World} {g : Nat} (hφ : φ g = none) {bi : BI} (hb : bi.blk = W.heap.size) (o : Obj) (hge : H.length ≤ g) {H' : AH} (hH : ∀ x, x < H.length → H'[x]? = H[x]?) (hl : H'.length = g + 1) (hgl : g = H.length) :
    Ev φ H W (φ.upd g bi) H' (W.alloc o) := by
  refine ⟨rfl, rfl, rfl, by rw [alloc_size]; omega, by omega, fun x hx => Phi.upd_ne (by omega), fun x hx _ => hH x hx, fun b hb _ => alloc_heap_old _ _ _ hb, fun x cs bi' h1 h2 h3 => ?_⟩
  by_cases e : x = g
  · subst e
    rw [Phi.upd_self] at h2; cases h2
    omega
  · rw [Phi.upd_ne e] at h2
    have hx : x < H.length := by have := (List.getElem?_eq_some_iff.1 h1).1; omega
    exact ⟨x, cs, bi', by rw [← hH x hx]; exact h1, h2, rfl⟩

end Go.Proofs.Ytelpdppdhimfoaa
