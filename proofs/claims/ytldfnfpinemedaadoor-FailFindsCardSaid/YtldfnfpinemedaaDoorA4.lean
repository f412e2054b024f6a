/- Words of the proofs: abstract memory. Values with abstract block numbers, a list of abstract blocks, how they stand for the machine's memory ('Sim'), and how both may go on ('Ev'). Words of the proofs: what the pure operations come to over abstract values, and that the machine comes to what they stand for. Words of the proofs: the other pure operations over abstract values; one law for all. Words of the proofs: build, conversions, interfaces, len, min, max; all pure operations under one name. -/
import Derived.WalkKit
import Derived.WalkSpells
import Derived.Orders
import Derived.Deep.AppendSrc

namespace Go.Proofs.YtldfnfpinemedaaDoor
open Go

/-- Where an abstract block lies: the machine's block, the place of its first cell, the size of the machine's block, whether a mark may stand behind it. -/
structure BI where
  blk : Nat
  off : Nat
  room : Nat
  mrk : Bool

inductive ABlk where
  | own (cs : List Value)
  | ro (cs : List Value)
  | map (es : List (Value × Value))
  | oddm (m : Bool) (b : Nat) (p : (Nat → Option BI) → Obj → Prop)
  | dead

/-- An object of another kind that is the walk's own. -/
abbrev ABlk.odd (b : Nat) (p : (Nat → Option BI) → Obj → Prop) : ABlk := .oddm true b p
/-- What the walk may write to. -/
def ABlk.mine : ABlk → Prop
  | .own _ => True
  | .map _ => True
  | .oddm m _ _ => m = true
  | _ => False
theorem ABlk.mine_own {cs : List Value} : (ABlk.own cs).mine := trivial
theorem ABlk.mine_map {es : List (Value × Value)} : (ABlk.map es).mine := trivial
theorem ABlk.mine_odd {b : Nat} {p : (Nat → Option BI) → Obj → Prop} : (ABlk.odd b p).mine := rfl
theorem ABlk.mine_ro {cs : List Value} : ¬ (ABlk.ro cs).mine := fun h => h
theorem ABlk.mine_dead : ¬ ABlk.dead.mine := fun h => h

abbrev AH := List ABlk
abbrev Phi := Nat → Option BI

def Qk : Value := .tuple #[.tuple #[]]

/-- An abstract value stands for a value of the machine. 'undef' stands for anything. A slice's abstract 'cap' is 0, or the size of its elements (it may then be appended to in place); a slice whose 'spot' is a number has that capacity. -/
inductive VR (φ : Phi) : Value → Value → Prop
  | any (v' : Value) : VR φ undef v'
  | skip : VR φ Qk undef
  | bool (b : Bool) : VR φ (.bool b) (.bool b)
  | int (k : IntKind) (n : Int) : VR φ (.int k n) (.int k n)
  | string (s : ByteArray) : VR φ (.string s) (.string s)
  | nilptr : VR φ (.pointer none) (.pointer none)
  | ptr {g o : Nat} {bi : BI} (h : φ g = some bi) : VR φ (.pointer (some ⟨g, o, none⟩)) (.pointer (some ⟨bi.blk, bi.off + o, none⟩))
  | nilslice : VR φ (.slice none 0 0) (.slice none 0 0)
  | empty (g0 o0 : Nat) (a' : Addr) (c' : Nat) : VR φ (.slice (some ⟨g0, o0, none⟩) 0 0) (.slice (some a') 0 c')
  | slice {g o n e c' : Nat} {bi : BI} (h : φ g = some bi) (hn : n ≤ c') (hr : e = 0 ∨ bi.off + o + c' * e ≤ bi.room ∧ (2 ≤ e → bi.mrk = false)) :
      VR φ (.slice (some ⟨g, o, none⟩) n e) (.slice (some ⟨bi.blk, bi.off + o, none⟩) n c')
  | sliceX {g o n e c : Nat} {bi : BI} (h : φ g = some bi) (hn : n ≤ c) (hr : e = 0 ∨ bi.off + o + c * e ≤ bi.room ∧ (2 ≤ e → bi.mrk = false)) :
      VR φ (.slice (some ⟨g, o, some c⟩) n e) (.slice (some ⟨bi.blk, bi.off + o, none⟩) n c)
  | nilmap : VR φ (.map none) (.map none)
  | map {g : Nat} {bi : BI} (h : φ g = some bi) : VR φ (.map (some g)) (.map (some bi.blk))
  | func (fn : Fn) {cs cs' ds ds' : Array Value} (h1 : cs.size = cs'.size) (h2 : ds.size = ds'.size)
      (hc : ∀ i (h : i < cs.size) (h' : i < cs'.size), VR φ cs[i] cs'[i]) (hd : ∀ i (h : i < ds.size) (h' : i < ds'.size), VR φ ds[i] ds'[i]) : VR φ (.func fn cs ds) (.func fn cs' ds')
  | nilFunc : VR φ .nilFunc .nilFunc
  | nilIface : VR φ .nilIface .nilIface
  | iface (t : TypeId) {v v' : Value} (h : VR φ v v') : VR φ (.iface t v) (.iface t v')
  | agg {cs cs' : Array Value} (hs : cs.size = cs'.size) (h : ∀ i (h : i < cs.size) (h' : i < cs'.size), VR φ cs[i] cs'[i]) : VR φ (.agg cs) (.agg cs')
  | tuple {cs cs' : Array Value} (hs : cs.size = cs'.size) (h : ∀ i (h : i < cs.size) (h' : i < cs'.size), VR φ cs[i] cs'[i]) : VR φ (.tuple cs) (.tuple cs')

theorem VR.mono {φ φ' : Phi} (hφ : ∀ g bi, φ g = some bi → φ' g = some bi) {v v' : Value} (h : VR φ v v') : VR φ' v v' := by
  induction h with
  | any v' => exact .any _
  | skip => exact .skip
  | bool b => exact .bool b
  | int k n => exact .int k n
  | string s => exact .string s
  | nilptr => exact .nilptr
  | ptr h => exact .ptr (hφ _ _ h)
  | nilslice => exact .nilslice
  | empty g0 o0 a' c' => exact .empty g0 o0 a' c'
  | slice h hn hr => exact .slice (hφ _ _ h) hn hr
  | sliceX h hn hr => exact .sliceX (hφ _ _ h) hn hr
  | nilmap => exact .nilmap
  | map h => exact .map (hφ _ _ h)
  | func fn h1 h2 _ _ ih1 ih2 => exact .func fn h1 h2 ih1 ih2
  | nilFunc => exact .nilFunc
  | nilIface => exact .nilIface
  | iface t _ ih => exact .iface t ih
  | agg hs _ ih => exact .agg hs ih
  | tuple hs _ ih => exact .tuple hs ih

/-- A row of abstract values stands for a row of values. -/
def VRL (φ : Phi) (vs vs' : List Value) : Prop := vs.length = vs'.length ∧ ∀ (i : Nat) (v v' : Value), vs[i]? = some v → vs'[i]? = some v' → VR φ v v'

theorem VRL.mono {φ φ' : Phi} (hφ : ∀ g bi, φ g = some bi → φ' g = some bi) {v v' : List Value} (h : VRL φ v v') : VRL φ' v v' :=
  ⟨h.1, fun i x y hx hy => (h.2 i x y hx hy).mono hφ⟩
theorem VRL.nil {φ : Phi} : VRL φ [] [] := ⟨rfl, fun i v v' h => by simp at h⟩
theorem VRL.cons {φ : Phi} {v v' : Value} {vs vs' : List Value} (h : VR φ v v') (hs : VRL φ vs vs') : VRL φ (v :: vs) (v' :: vs') := by
  refine ⟨by simp [hs.1], fun i x y hx hy => ?_⟩
  cases i with
  | zero => simp at hx hy; subst hx; subst hy; exact h
  | succ i => exact hs.2 i x y (by simpa using hx) (by simpa using hy)
theorem VRL.append {φ : Phi} {a a' b b' : List Value} (h : VRL φ a a') (k : VRL φ b b') : VRL φ (a ++ b) (a' ++ b') := by
  refine ⟨by simp [h.1, k.1], fun i x y hx hy => ?_⟩
  rcases Nat.lt_or_ge i a.length with hi | hi
  · rw [List.getElem?_append_left hi] at hx
    rw [List.getElem?_append_left (by rw [← h.1]; exact hi)] at hy
    exact h.2 i x y hx hy
  · rw [List.getElem?_append_right hi] at hx
    rw [List.getElem?_append_right (by rw [← h.1]; exact hi), ← h.1] at hy
    exact k.2 _ x y hx hy
theorem VRL.get {φ : Phi} {a a' : List Value} (h : VRL φ a a') {i : Nat} {v : Value} (hv : a[i]? = some v) : ∃ v', a'[i]? = some v' ∧ VR φ v v' := by
  have hi : i < a.length := (List.getElem?_eq_some_iff.1 hv).1
  have hi' : i < a'.length := by rw [← h.1]; exact hi
  exact ⟨a'[i], List.getElem?_eq_getElem hi', h.2 i v _ hv (List.getElem?_eq_getElem hi')⟩
theorem VRL.take {φ : Phi} {a a' : List Value} (h : VRL φ a a') (n : Nat) : VRL φ (a.take n) (a'.take n) := by
  refine ⟨by simp [h.1], fun i x y hx hy => ?_⟩
  rw [List.getElem?_take] at hx hy
  split at hx
  · rename_i hi; rw [if_pos hi] at hy; exact h.2 i x y hx hy
  · cases hx
theorem VRL.drop {φ : Phi} {a a' : List Value} (h : VRL φ a a') (n : Nat) : VRL φ (a.drop n) (a'.drop n) := by
  refine ⟨by simp [h.1], fun i x y hx hy => ?_⟩
  rw [List.getElem?_drop] at hx hy
  exact h.2 _ x y hx hy
theorem VRL.set {φ : Phi} {a a' : List Value} (h : VRL φ a a') (n : Nat) {v v' : Value} (hv : VR φ v v') : VRL φ (a.set n v) (a'.set n v') := by
  refine ⟨by simp [h.1], fun i x y hx hy => ?_⟩
  rw [List.getElem?_set] at hx hy
  split at hx
  · rename_i hi
    subst hi
    split at hx
    · rename_i hl
      rw [if_pos rfl, if_pos (by rw [← h.1]; exact hl)] at hy
      injection hx with hx; injection hy with hy; subst hx; subst hy; exact hv
    · cases hx
  · rename_i hi
    rw [if_neg hi] at hy
    exact h.2 i x y hx hy

/-- An object that is no row of cells, and no map. -/
def Odd (o : Obj) : Prop := (∀ (C : Array Value) (ty : TypeId) (fr : Nat × Nat), o ≠ .cells C ty fr) ∧ ∀ (E : Array MapEntry) (cl : Nat), o ≠ .map E cl
/-- A map's entries were born in the order in which they stand. -/
def MapOk (E : Array MapEntry) (cl n : Nat) : Prop := E.size = n ∧ cl = n ∧ ∀ (i : Nat) e, E[i]? = some e → e.born = i
/-- The abstract blocks stand for the machine's memory. -/
structure Sim (φ : Phi) (H : AH) (W : World) : Prop where
  dom : ∀ g bi, φ g = some bi → g < H.length ∧ bi.blk < W.heap.size
  own : ∀ g cs bi, H[g]? = some (.own cs) → φ g = some bi → ∃ (C : Array Value) (ty : TypeId) (fr : Nat × Nat), W.heap[bi.blk]? = some (.cells C ty fr) ∧ C.size = bi.room ∧
    (fr.1 = fr.2 ∨ bi.mrk = true ∧ C.size ≤ fr.1) ∧ bi.off + cs.length ≤ C.size ∧ ∀ i v, cs[i]? = some v → ∃ v', C[bi.off + i]? = some v' ∧ VR φ v v'
  ro : ∀ g cs bi, H[g]? = some (.ro cs) → φ g = some bi → ∃ (C : Array Value) (ty : TypeId) (fr : Nat × Nat), W.heap[bi.blk]? = some (.cells C ty fr) ∧
    ∀ i v, cs[i]? = some v → ∃ v', C[bi.off + i]? = some v' ∧ VR φ v v'
  map : ∀ g es bi, H[g]? = some (.map es) → φ g = some bi → ∃ (E : Array MapEntry) (clock : Nat), W.heap[bi.blk]? = some (.map E clock) ∧ MapOk E clock es.length ∧
    ∀ (i : Nat) k v, es[i]? = some (k, v) → ∃ e, E[i]? = some e ∧ VR φ k e.key ∧ VR φ v e.val
  oddm : ∀ g mm b p, H[g]? = some (.oddm mm b p) → ∃ bi o, φ g = some bi ∧ bi.blk = b ∧ W.heap[b]? = some o ∧ (mm = true → Odd o) ∧ ∀ φ' : Phi, (∀ g bi, φ g = some bi → φ' g = some bi) → p φ' o
  sep : ∀ g g' c bi bi', H[g]? = some c → c.mine → φ g = some bi → g' ≠ g → φ g' = some bi' → H[g']? ≠ some .dead → bi.blk ≠ bi'.blk

theorem Sim.odd {φ : Phi} {H : AH} {W : World} (h : Sim φ H W) (g b : Nat) (p : Phi → Obj → Prop) (hg : H[g]? = some (.odd b p)) : ∃ bi o, φ g = some bi ∧ bi.blk = b ∧ W.heap[b]? = some o ∧ Odd o ∧ ∀ φ' : Phi, (∀ g bi, φ g = some bi → φ' g = some bi) → p φ' o :=
  let ⟨bi, o, d1, d2, d3, d4, d5⟩ := h.oddm g true b p hg
  ⟨bi, o, d1, d2, d3, d4 rfl, d5⟩
/-- How abstract and machine memory may go on: what is not an owned block stays as it is. -/
structure Ev (φ : Phi) (H : AH) (W : World) (φ' : Phi) (H' : AH) (W' : World) : Prop where
  os : W'.os = W.os
  tape : W'.tape = W.tape
  output : W'.output = W.output
  size : W.heap.size ≤ W'.heap.size
  len : H.length ≤ H'.length
  phi : ∀ g, g < H.length → φ' g = φ g
  absf : ∀ g, g < H.length → φ g = none → H'[g]? = H[g]?
  fr : ∀ b, b < W.heap.size → (∀ g c bi, H[g]? = some c → c.mine → φ g = some bi → bi.blk ≠ b) → W'.heap[b]? = W.heap[b]?
  fresh : ∀ g c bi, H'[g]? = some c → c.mine → φ' g = some bi → bi.blk < W.heap.size → ∃ g0 c0 bi0, H[g0]? = some c0 ∧ c0.mine ∧ φ g0 = some bi0 ∧ bi0.blk = bi.blk

theorem Ev.refl (φ : Phi) (H : AH) (W : World) : Ev φ H W φ H W :=
  ⟨rfl, rfl, rfl, Nat.le_refl _, Nat.le_refl _, fun _ _ => rfl, fun _ _ _ => rfl, fun _ _ _ => rfl, fun g cs bi h1 hm h2 _ => ⟨g, cs, bi, h1, hm, h2, rfl⟩⟩
theorem Ev.trans {φ φ' φ'' : Phi} {H H' H'' : AH} {W W' W'' : World} (h : Ev φ H W φ' H' W') (k : Ev φ' H' W' φ'' H'' W'') : Ev φ H W φ'' H'' W'' where
  os := k.os.trans h.os
  tape := k.tape.trans h.tape
  output := k.output.trans h.output
  size := Nat.le_trans h.size k.size
  len := Nat.le_trans h.len k.len
  phi g hg := (k.phi g (Nat.lt_of_lt_of_le hg h.len)).trans (h.phi g hg)
  absf g hg hn := (k.absf g (Nat.lt_of_lt_of_le hg h.len) ((h.phi g hg).trans hn)).trans (h.absf g hg hn)
  fr b hb hown := by
    refine (k.fr b (Nat.lt_of_lt_of_le hb h.size) fun g cs bi h1 hm h2 he => ?_).trans (h.fr b hb hown)
    obtain ⟨g0, cs0, bi0, e1, em, e2, e3⟩ := h.fresh g cs bi h1 hm h2 (by rw [he]; exact hb)
    exact hown g0 cs0 bi0 e1 em e2 (e3.trans he)
  fresh g cs bi h1 hm h2 hb := by
    obtain ⟨g1, cs1, bi1, e1, em, e2, e3⟩ := k.fresh g cs bi h1 hm h2 (Nat.lt_of_lt_of_le hb h.size)
    obtain ⟨g0, cs0, bi0, d1, dm, d2, d3⟩ := h.fresh g1 cs1 bi1 e1 em e2 (by rw [e3]; exact hb)
    exact ⟨g0, cs0, bi0, d1, dm, d2, d3.trans e3⟩
theorem Ev.mono {φ φ' : Phi} {H H' : AH} {W W' : World} (h : Ev φ H W φ' H' W') (hS : Sim φ H W) : ∀ g bi, φ g = some bi → φ' g = some bi :=
  fun g _ hg => (h.phi g (hS.dom g _ hg).1).trans hg

/-- A draw changes nothing that is spoken of. -/
theorem Sim.heap {φ : Phi} {H : AH} {W W' : World} (h : Sim φ H W) (e : W'.heap = W.heap) : Sim φ H W' :=
  ⟨fun g bi hg => by rw [e]; exact h.dom g bi hg, fun g cs bi h1 h2 => by rw [e]; exact h.own g cs bi h1 h2, fun g cs bi h1 h2 => by rw [e]; exact h.ro g cs bi h1 h2, fun g es bi h1 h2 => by rw [e]; exact h.map g es bi h1 h2, fun g mm b p h1 => by rw [e]; exact h.oddm g mm b p h1, h.sep⟩
theorem Ev.heap {φ : Phi} {H : AH} {W W' : World} (e : W'.heap = W.heap) (h1 : W'.os = W.os) (h2 : W'.tape = W.tape) (h3 : W'.output = W.output) : Ev φ H W φ H W' :=
  ⟨h1, h2, h3, by rw [e]; exact Nat.le_refl _, Nat.le_refl _, fun _ _ => rfl, fun _ _ _ => rfl, fun _ _ _ => by rw [e], fun g cs bi h1 hm h2 _ => ⟨g, cs, bi, h1, hm, h2, rfl⟩⟩

theorem Sim.fresh_none {φ : Phi} {H : AH} {W : World} (h : Sim φ H W) {g : Nat} (hg : H.length ≤ g) : φ g = none := by
  cases e : φ g with
  | none => rfl
  | some bi => exact absurd (h.dom g bi e).1 (by omega)

theorem get_push_lt {H : AH} {b : ABlk} {g : Nat} (hg : g < H.length) : (H ++ [b])[g]? = H[g]? := List.getElem?_append_left hg
theorem get_push_eq {H : AH} {b : ABlk} : (H ++ [b])[H.length]? = some b := by simp

/-- A new abstract block that stands for nothing yet. -/
theorem Sim.push {φ : Phi} {H : AH} {W : World} (h : Sim φ H W) (b : ABlk) (hb : ∀ mm x p, b ≠ .oddm mm x p := by intro _ _ _ e; cases e) : Sim φ (H ++ [b]) W := by
  have key : ∀ g x bi, (H ++ [b])[g]? = some x → φ g = some bi → H[g]? = some x := fun g x bi hx hg => by
    rwa [get_push_lt (h.dom g bi hg).1] at hx
  refine ⟨fun g bi hg => ⟨by have := (h.dom g bi hg).1; simp; omega, (h.dom g bi hg).2⟩, fun g cs bi h1 h2 => h.own g cs bi (key _ _ _ h1 h2) h2, fun g cs bi h1 h2 => h.ro g cs bi (key _ _ _ h1 h2) h2, fun g es bi h1 h2 => h.map g es bi (key _ _ _ h1 h2) h2, fun g mm x p h1 => ?_, fun g g' cs bi bi' h1 hm h2 h3 h4 h5 => ?_⟩
  · by_cases hg : g < H.length
    · rw [get_push_lt hg] at h1; exact h.oddm g mm x p h1
    · have : g = H.length := by have := (List.getElem?_eq_some_iff.1 h1).1; simp at this; omega
      subst this
      rw [get_push_eq] at h1; cases h1
      exact absurd rfl (hb mm x p)
  · refine h.sep g g' cs bi bi' (key _ _ _ h1 h2) hm h2 h3 h4 ?_
    rwa [get_push_lt (h.dom g' bi' h4).1] at h5
theorem Ev.push {φ : Phi} {H : AH} {W : World} (h : Sim φ H W) (b : ABlk) : Ev φ H W φ (H ++ [b]) W := by
  refine ⟨rfl, rfl, rfl, Nat.le_refl _, by simp, fun _ _ => rfl, fun g hg _ => get_push_lt hg, fun _ _ _ => rfl, fun g cs bi h1 hm h2 _ => ⟨g, cs, bi, ?_, hm, h2, rfl⟩⟩
  rwa [get_push_lt (h.dom g bi h2).1] at h1

def Phi.upd (φ : Phi) (g : Nat) (bi : BI) : Phi := fun x => if x = g then some bi else φ x
theorem Phi.upd_le {φ : Phi} {g : Nat} {bi : BI} (hg : φ g = none) : ∀ x b, φ x = some b → φ.upd g bi x = some b := by
  intro x b hx
  unfold Phi.upd
  by_cases e : x = g
  · subst e; rw [hg] at hx; cases hx
  · rw [if_neg e]; exact hx
theorem Phi.upd_self {φ : Phi} {g : Nat} {bi : BI} : φ.upd g bi g = some bi := by simp [Phi.upd]
theorem Phi.upd_ne {φ : Phi} {g x : Nat} {bi : BI} (h : x ≠ g) : φ.upd g bi x = φ x := by simp [Phi.upd, h]

theorem alloc_heap_new (w : World) (o : Obj) : (w.alloc o).heap[w.heap.size]? = some o := by
  show (w.heap.push o)[w.heap.size]? = some o
  simp
theorem alloc_heap_old (w : World) (o : Obj) (i : Nat) (h : i < w.heap.size) : (w.alloc o).heap[i]? = w.heap[i]? := by
  show (w.heap.push o)[i]? = w.heap[i]?
  rw [Array.getElem?_push, if_neg (Nat.ne_of_lt h)]
theorem alloc_size (w : World) (o : Obj) : (w.alloc o).heap.size = w.heap.size + 1 := by show (w.heap.push o).size = _; simp

/-- An abstract block that stands for nothing yet gets a new block of the machine. -/
theorem Sim.concretize {φ : Phi} {H : AH} {W : World} (h : Sim φ H W) {g : Nat} {cs : List Value} {C : Array Value} {ty : TypeId} {fr : Nat × Nat} {mk : Bool} (hg : H[g]? = some (.own cs)) (hφ : φ g = none)
    (hfr : fr.1 = fr.2 ∨ mk = true ∧ C.size ≤ fr.1) (hl : cs.length ≤ C.size) (hc : ∀ (i : Nat) (v : Value), cs[i]? = some v → ∃ v', C[i]? = some v' ∧ VR φ v v') :
    Sim (φ.upd g ⟨W.heap.size, 0, C.size, mk⟩) H (W.alloc (.cells C ty fr)) := by
  have hle := Phi.upd_le (bi := ⟨W.heap.size, 0, C.size, mk⟩) hφ
  refine ⟨fun x bi hx => ?_, fun x cs' bi h1 hx => ?_, fun x cs' bi h1 hx => ?_, fun x cs' bi h1 hx => ?_, fun x mm b p h1 => ?_, fun x y cs' bi bi' h1 hm hx hne hy h5 => ?_⟩
  · by_cases e : x = g
    · subst e
      rw [Phi.upd_self] at hx; cases hx
      exact ⟨(List.getElem?_eq_some_iff.1 hg).1, by rw [alloc_size]; exact Nat.lt_succ_self _⟩
    · rw [Phi.upd_ne e] at hx
      exact ⟨(h.dom x bi hx).1, by rw [alloc_size]; have := (h.dom x bi hx).2; omega⟩
  · by_cases e : x = g
    · subst e
      rw [Phi.upd_self] at hx; cases hx
      rw [hg] at h1; cases h1
      refine ⟨C, ty, fr, alloc_heap_new _ _, rfl, hfr, by simpa using hl, fun i v hv => ?_⟩
      obtain ⟨v', h1, h2⟩ := hc i v hv
      exact ⟨v', by simpa using h1, h2.mono hle⟩
    · rw [Phi.upd_ne e] at hx
      obtain ⟨D, ty', fr', d1, d2, d3, d4, d5⟩ := h.own x cs' bi h1 hx
      refine ⟨D, ty', fr', by rw [alloc_heap_old _ _ _ (h.dom x bi hx).2]; exact d1, d2, d3, d4, fun i v hv => ?_⟩
      obtain ⟨v', e1, e2⟩ := d5 i v hv
      exact ⟨v', e1, e2.mono hle⟩
  · have e : x ≠ g := by rintro rfl; rw [hg] at h1; cases h1
    rw [Phi.upd_ne e] at hx
    obtain ⟨D, ty', fr', d1, d5⟩ := h.ro x cs' bi h1 hx
    refine ⟨D, ty', fr', by rw [alloc_heap_old _ _ _ (h.dom x bi hx).2]; exact d1, fun i v hv => ?_⟩
    obtain ⟨v', e1, e2⟩ := d5 i v hv
    exact ⟨v', e1, e2.mono hle⟩
  · have e : x ≠ g := by rintro rfl; rw [hg] at h1; cases h1
    rw [Phi.upd_ne e] at hx
    obtain ⟨E, cl, d1, d2, d5⟩ := h.map x cs' bi h1 hx
    refine ⟨E, cl, by rw [alloc_heap_old _ _ _ (h.dom x bi hx).2]; exact d1, d2, fun i k v hv => ?_⟩
    obtain ⟨v', e1, e2, e3⟩ := d5 i k v hv
    exact ⟨v', e1, e2.mono hle, e3.mono hle⟩
  · have e : x ≠ g := by rintro rfl; rw [hg] at h1; cases h1
    obtain ⟨bi, o, d1, d2, d3, d4, d5⟩ := h.oddm x mm b p h1
    exact ⟨bi, o, by rw [Phi.upd_ne e]; exact d1, d2, by rw [alloc_heap_old _ _ _ (by rw [← d2]; exact (h.dom x bi d1).2)]; exact d3, d4, fun φ' hφ' => d5 φ' fun y b' hy => hφ' y b' (hle y b' hy)⟩
  · by_cases e : x = g
    · subst e
      rw [Phi.upd_self] at hx; cases hx
      rw [Phi.upd_ne hne] at hy
      have := (h.dom y bi' hy).2
      show W.heap.size ≠ bi'.blk
      omega
    · rw [Phi.upd_ne e] at hx
      by_cases e' : y = g
      · subst e'
        rw [Phi.upd_self] at hy; cases hy
        have := (h.dom x bi hx).2
        show bi.blk ≠ W.heap.size
        omega
      · rw [Phi.upd_ne e'] at hy
        exact h.sep x y cs' bi bi' h1 hm hx hne hy h5
/-- An abstract map that stands for nothing yet gets a new map of the machine. -/
theorem Sim.newmap {φ : Phi} {H : AH} {W : World} (h : Sim φ H W) {g : Nat} (hg : H[g]? = some (.map [])) (hφ : φ g = none) :
    Sim (φ.upd g ⟨W.heap.size, 0, 0, true⟩) H (W.alloc (.map #[] 0)) := by
  have hle := Phi.upd_le (bi := ⟨W.heap.size, 0, 0, true⟩) hφ
  refine ⟨fun x bi hx => ?_, fun x cs' bi h1 hx => ?_, fun x cs' bi h1 hx => ?_, fun x cs' bi h1 hx => ?_, fun x mm b p h1 => ?_, fun x y cs' bi bi' h1 hm hx hne hy h5 => ?_⟩
  · by_cases e : x = g
    · subst e
      rw [Phi.upd_self] at hx; cases hx
      exact ⟨(List.getElem?_eq_some_iff.1 hg).1, by rw [alloc_size]; exact Nat.lt_succ_self _⟩
    · rw [Phi.upd_ne e] at hx
      exact ⟨(h.dom x bi hx).1, by rw [alloc_size]; have := (h.dom x bi hx).2; omega⟩
  · have e : x ≠ g := by rintro rfl; rw [hg] at h1; cases h1
    rw [Phi.upd_ne e] at hx
    obtain ⟨D, ty', fr', d1, d2, d3, d4, d5⟩ := h.own x cs' bi h1 hx
    refine ⟨D, ty', fr', by rw [alloc_heap_old _ _ _ (h.dom x bi hx).2]; exact d1, d2, d3, d4, fun i v hv => ?_⟩
    obtain ⟨v', e1, e2⟩ := d5 i v hv
    exact ⟨v', e1, e2.mono hle⟩
  · have e : x ≠ g := by rintro rfl; rw [hg] at h1; cases h1
    rw [Phi.upd_ne e] at hx
    obtain ⟨D, ty', fr', d1, d5⟩ := h.ro x cs' bi h1 hx
    refine ⟨D, ty', fr', by rw [alloc_heap_old _ _ _ (h.dom x bi hx).2]; exact d1, fun i v hv => ?_⟩
    obtain ⟨v', e1, e2⟩ := d5 i v hv
    exact ⟨v', e1, e2.mono hle⟩
  · by_cases e : x = g
    · subst e
      rw [Phi.upd_self] at hx; cases hx
      rw [hg] at h1; cases h1
      exact ⟨#[], 0, alloc_heap_new _ _, ⟨rfl, rfl, fun i e he => by simp at he⟩, fun i k v hv => by simp at hv⟩
    · rw [Phi.upd_ne e] at hx
      obtain ⟨E, cl, d1, d2, d5⟩ := h.map x cs' bi h1 hx
      refine ⟨E, cl, by rw [alloc_heap_old _ _ _ (h.dom x bi hx).2]; exact d1, d2, fun i k v hv => ?_⟩
      obtain ⟨v', e1, e2, e3⟩ := d5 i k v hv
      exact ⟨v', e1, e2.mono hle, e3.mono hle⟩
  · have e : x ≠ g := by rintro rfl; rw [hg] at h1; cases h1
    obtain ⟨bi, o, d1, d2, d3, d4, d5⟩ := h.oddm x mm b p h1
    exact ⟨bi, o, by rw [Phi.upd_ne e]; exact d1, d2, by rw [alloc_heap_old _ _ _ (by rw [← d2]; exact (h.dom x bi d1).2)]; exact d3, d4, fun φ' hφ' => d5 φ' fun y b' hy => hφ' y b' (hle y b' hy)⟩
  · by_cases e : x = g
    · subst e
      rw [Phi.upd_self] at hx; cases hx
      rw [Phi.upd_ne hne] at hy
      have := (h.dom y bi' hy).2
      show W.heap.size ≠ bi'.blk
      omega
    · rw [Phi.upd_ne e] at hx
      by_cases e' : y = g
      · subst e'
        rw [Phi.upd_self] at hy; cases hy
        have := (h.dom x bi hx).2
        show bi.blk ≠ W.heap.size
        omega
      · rw [Phi.upd_ne e'] at hy
        exact h.sep x y cs' bi bi' h1 hm hx hne hy h5
theorem Ev.concretize {φ : Phi} {H : AH} {W : World} {g : Nat} (hφ : φ g = none) {bi : BI} (hb : bi.blk = W.heap.size) (o : Obj) (hge : H.length ≤ g) {H' : AH} (hH : ∀ x, x < H.length → H'[x]? = H[x]?) (hl : H'.length = g + 1) (hgl : g = H.length) :
    Ev φ H W (φ.upd g bi) H' (W.alloc o) := by
  refine ⟨rfl, rfl, rfl, by rw [alloc_size]; omega, by omega, fun x hx => Phi.upd_ne (by omega), fun x hx _ => hH x hx, fun b hb _ => alloc_heap_old _ _ _ hb, fun x cs bi' h1 hm h2 h3 => ?_⟩
  by_cases e : x = g
  · subst e
    rw [Phi.upd_self] at h2; cases h2
    omega
  · rw [Phi.upd_ne e] at h2
    have hx : x < H.length := by have := (List.getElem?_eq_some_iff.1 h1).1; omega
    exact ⟨x, cs, bi', by rw [← hH x hx]; exact h1, hm, h2, rfl⟩

end Go.Proofs.YtldfnfpinemedaaDoor

namespace Go.Proofs.YtldfnfpinemedaaDoor
open Go
set_option linter.unusedSimpArgs false
set_option linter.unusedVariables false

def szT (P : Program) (t : TypeId) : Option Nat := (P.info? t).map (·.size)
def arrT (P : Program) (t : TypeId) : Option (Nat × Nat) :=
  match P.underlying t with
  | some (.array n e) => (szT P e).map fun s => (n, s)
  | _ => none
def slcT (P : Program) (t : TypeId) : Option Nat :=
  match P.underlying t with
  | some (.slice e) => szT P e
  | _ => none
def aggT (P : Program) (t : TypeId) : Option (Option Nat) :=
  match P.underlying t with
  | some (.struct _) | some (.array _ _) => (szT P t).map some
  | some _ => some none
  | none => none
def fldT (P : Program) (t : TypeId) (f : Nat) : Option (Nat × TypeId) :=
  match P.underlying t with
  | some (.struct fs) => (fs[f]?).map fun x => (x.offset, x.type)
  | _ => none
def intT (P : Program) (t : TypeId) : Option IntKind :=
  match P.underlying t with
  | some (.int k) => some k
  | _ => none
def strT (P : Program) (t : TypeId) : Bool := P.underlying t matches some .string
def boolT (P : Program) (t : TypeId) : Bool := P.underlying t matches some .bool
def knownT (P : Program) (t : TypeId) : Bool := (P.underlying t).isSome
def ifaceT (P : Program) (t : TypeId) : Bool := P.underlying t matches some (.interface _)
def sliceT (P : Program) (t : TypeId) : Bool := P.underlying t matches some (.slice _)

theorem szT_spec {P : Program} {t : TypeId} {n : Nat} (h : szT P t = some n) (W : World) : (sizeOf t).run P W = .ok n W := by
  unfold szT at h
  cases hi : P.info? t with
  | none => simp [hi] at h
  | some i => simp [hi] at h; subst h; simp [sizeOf, typeInfo, hi]
theorem arrT_spec {P : Program} {t : TypeId} {n s : Nat} (h : arrT P t = some (n, s)) : ∃ e, P.underlying t = some (.array n e) ∧ szT P e = some s := by
  unfold arrT at h
  split at h
  · rename_i m e hu
    cases hs : szT P e with
    | none => simp [hs] at h
    | some s' => simp [hs] at h; obtain ⟨rfl, rfl⟩ := h; exact ⟨e, hu, hs⟩
  · cases h
theorem slcT_spec {P : Program} {t : TypeId} {s : Nat} (h : slcT P t = some s) : ∃ e, P.underlying t = some (.slice e) ∧ szT P e = some s := by
  unfold slcT at h
  split at h
  · rename_i e hu; exact ⟨e, hu, h⟩
  · cases h
theorem fldT_spec {P : Program} {t : TypeId} {f o : Nat} {T : TypeId} (h : fldT P t f = some (o, T)) : ∃ fs x, P.underlying t = some (.struct fs) ∧ fs[f]? = some x ∧ x.offset = o ∧ x.type = T := by
  unfold fldT at h
  split at h
  · rename_i fs hu
    cases hx : fs[f]? with
    | none => simp [hx] at h
    | some x => simp [hx] at h; exact ⟨fs, x, hu, hx, h.1, h.2⟩
  · cases h
theorem intT_spec {P : Program} {t : TypeId} {k : IntKind} (h : intT P t = some k) : P.underlying t = some (.int k) := by
  unfold intT at h
  split at h
  · rename_i k' hu; cases h; exact hu
  · cases h
theorem aggT_spec {P : Program} {t : TypeId} {x : Option Nat} (h : aggT P t = some x) (W : World) : (isAgg t).run P W = .ok x.isSome W ∧ ∀ n, x = some n → szT P t = some n := by
  unfold aggT at h
  split at h
  · rename_i fs hu
    cases hs : szT P t with
    | none => simp [hs] at h
    | some s => simp [hs] at h; subst h; exact ⟨by simp [isAgg, run_underlying hu], fun n hn => by cases hn; rfl⟩
  · rename_i n e hu
    cases hs : szT P t with
    | none => simp [hs] at h
    | some s => simp [hs] at h; subst h; exact ⟨by simp [isAgg, run_underlying hu], fun n hn => by cases hn; rfl⟩
  · rename_i d h1 h2 hu
    cases h
    refine ⟨?_, fun n hn => by cases hn⟩
    unfold isAgg
    rw [Sem.run_bind, run_underlying hu W]
    cases d <;> first | rfl | exact absurd rfl (h1 _) | exact absurd rfl (h2 _ _)
  · cases h

/-! ### integers, strings, bools -/
def aint (op : BinOp) (k : IntKind) (a b : Int) : Option Value :=
  match op with
  | .add => some (.int k (k.wrap (a + b)))
  | .sub => some (.int k (k.wrap (a - b)))
  | .mul => some (.int k (k.wrap (a * b)))
  | .quo => if b = 0 then none else some (.int k (k.wrap (a.tdiv b)))
  | .rem => if b = 0 then none else some (.int k (a.tmod b))
  | .and => some (.int k (bits .and k a b))
  | .or => some (.int k (bits .or k a b))
  | .xor => some (.int k (bits .xor k a b))
  | .andNot => some (.int k (bits .andNot k a b))
  | .eql => some (.bool (a == b))
  | .neq => some (.bool (a != b))
  | .lss => some (.bool (a < b))
  | .leq => some (.bool (a ≤ b))
  | .gtr => some (.bool (a > b))
  | .geq => some (.bool (a ≥ b))
  | _ => none
def ashift (op : BinOp) (k : IntKind) (a b : Int) : Option Value :=
  if b < 0 then none else
  match op with
  | .shl => some (.int k (k.wrap (a * 2 ^ min b.toNat k.bits)))
  | .shr => some (.int k (a / 2 ^ min b.toNat k.bits))
  | _ => none
def astr (op : BinOp) (a b : ByteArray) : Option Value :=
  match op with
  | .add => if a.size + b.size ≤ 9223372036854775807 then some (.string (a ++ b)) else none
  | .eql => some (.bool (a.toList == b.toList))
  | .neq => some (.bool !(a.toList == b.toList))
  | .lss => some (.bool (Op.bytesLess a.toList b.toList))
  | .leq => some (.bool (Op.bytesLess a.toList b.toList || a.toList == b.toList))
  | .gtr => some (.bool !(Op.bytesLess a.toList b.toList || a.toList == b.toList))
  | .geq => some (.bool !(Op.bytesLess a.toList b.toList))
  | _ => none
/-- '==' with nil: is the other side nil? -/
def anil (x y : Value) : Option Bool :=
  match x, y with
  | .slice none 0 0, .slice none 0 0 => some true
  | .slice none 0 0, .slice (some _) _ _ => some false
  | .slice (some _) _ _, .slice none 0 0 => some false
  | .pointer none, .pointer none => some true
  | .pointer none, .pointer (some _) => some false
  | .pointer (some _), .pointer none => some false
  | .nilIface, .iface _ _ => some false
  | .iface _ _, .nilIface => some false
  | _, _ => none
def nilTy (P : Program) (t : TypeId) (x : Value) : Bool :=
  match P.underlying t, x with
  | some (.slice _), .slice .. => true
  | some (.pointer _), .pointer .. => true
  | some (.interface _), .nilIface => true
  | some (.interface _), .iface .. => true
  | _, _ => false
def abin (P : Program) (op : BinOp) (t : TypeId) (x y : Value) : Option Value :=
  match x, y with
  | .int k a, .int k' b =>
    match op with
    | .shl | .shr => ashift op k a b
    | _ => if k = k' then aint op k a b else none
  | .string a, .string b => astr op a b
  | .bool a, .bool b => if boolT P t then (match op with | .eql => some (.bool (a == b)) | .neq => some (.bool !(a == b)) | _ => none) else none
  | _, _ => if nilTy P t x then (match op with | .eql => (anil x y).map .bool | .neq => (anil x y).map fun b => .bool !b | _ => none) else none

theorem aint_sound {P : Program} {op : BinOp} {k : IntKind} {a b : Int} {t : TypeId} {v : Value} (h : aint op k a b = some v) (h1 : op ≠ .shl) (h2 : op ≠ .shr) (W : World) : (binOp op t (.int k a) (.int k b)).run P W = .ok v W := by
  cases op <;> simp [aint] at h <;> first | exact absurd rfl h1 | exact absurd rfl h2 | skip
  all_goals first
    | (subst h; simp [go_sem]; done)
    | (obtain ⟨hb, rfl⟩ := h; simp [go_sem, hb]; done)
    | skip
theorem ashift_sound {P : Program} {op : BinOp} {k k' : IntKind} {a b : Int} {t : TypeId} {v : Value} (h : ashift op k a b = some v) (W : World) : (binOp op t (.int k a) (.int k' b)).run P W = .ok v W := by
  unfold ashift at h
  split at h
  · cases h
  · rename_i hb
    have hb' : 0 ≤ b := by omega
    cases op <;> simp at h
    · subst h; rw [binOp_shl, shift_shl_any _ _ _ _ hb']; rfl
    · subst h; rw [binOp_shr, shift_shr_any _ _ _ _ hb']; rfl
theorem astr_sound {P : Program} {op : BinOp} {a b : ByteArray} {t : TypeId} {v : Value} (h : astr op a b = some v) (W : World) : (binOp op t (.string a) (.string b)).run P W = .ok v W := by
  cases op <;> simp [astr] at h
  case add =>
    obtain ⟨hl, rfl⟩ := h
    simp only [binOp, Op.stringOp]
    rw [if_neg (by simp; omega)]
    rfl
  all_goals (subst h; simp [binOp, Op.stringOp])

theorem equal_of_in {P : Program} {t : TypeId} {x y : Value} {b : Bool} {W : World} (h : ∀ d, (Op.equalIn (d + 1) t x y).run P W = .ok b W) : (Op.equal t x y).run P W = .ok b W := h 9999
theorem anil_sound {P : Program} {φ : Phi} {op : BinOp} {t : TypeId} {x y x' y' v : Value} (hn : nilTy P t x = true) (h : (match op with | .eql => (anil x y).map Value.bool | .neq => (anil x y).map fun b => Value.bool !b | _ => none) = some v)
    (hx : VR φ x x') (hy : VR φ y y') (W : World) : (binOp op t x' y').run P W = .ok v W := by
  have main : ∀ b, anil x y = some b → (∀ d, (Op.equalIn (d + 1) t x' y').run P W = .ok b W) ∧ (∀ k n, x' ≠ .int k n) ∧ (∀ s, x' ≠ .string s) ∧ (∀ k n, x' ≠ .float k n) ∧ (∀ k n m, x' ≠ .complex k n m) := by
    intro b hb
    unfold nilTy at hn
    split at hn
    case h_5 => cases hn
    all_goals
      rename_i hu
      unfold anil at hb
      split at hb <;> first | cases hb | skip
      all_goals
        (rename_i heq; cases heq) <;>
        (cases hx <;> cases hy <;>
         (refine ⟨fun d => ?_, by intros; simp, by intros; simp, by intros; simp, by intros; simp⟩
          simp only [Op.equalIn, Sem.run_bind, run_underlying hu, Result.andThen_ok]
          rfl))
  cases hb : anil x y with
  | none => rw [hb] at h; cases op <;> simp at h
  | some b =>
    obtain ⟨he, h1, h2, h3, h4⟩ := main b hb
    replace he := equal_of_in he
    rw [hb] at h
    cases op <;> simp at h <;> subst h
    · cases x' <;> first | exact absurd rfl (h1 _ _) | exact absurd rfl (h2 _) | exact absurd rfl (h3 _ _) | exact absurd rfl (h4 _ _ _) | (simp only [binOp]; simp [he])
    · cases x' <;> first | exact absurd rfl (h1 _ _) | exact absurd rfl (h2 _) | exact absurd rfl (h3 _ _) | exact absurd rfl (h4 _ _ _) | (simp only [binOp]; simp [he])
end Go.Proofs.YtldfnfpinemedaaDoor

namespace Go.Proofs.YtldfnfpinemedaaDoor
open Go
set_option linter.unusedSimpArgs false
set_option linter.unusedVariables false

/-- What is told of a pure operation: whatever the world, the machine comes to a value that the abstract one stands for. -/
def Pures (P : Program) (φ : Phi) (s : Sem Value) (v : Value) : Prop := ∃ v', VR φ v v' ∧ ∀ W, s.run P W = .ok v' W

theorem addr_add (b o n : Nat) : Addr.add ⟨b, o, none⟩ n = ⟨b, o + n, none⟩ := Addr.add_lit b o n

def Qb (P : Program) (T : TypeId) (x i : Value) : Option Value :=
  match x, i with
  | .pointer (some ⟨g, o, none⟩), .int _ i =>
    match arrT P T with
    | some (n, s) => if 0 ≤ i ∧ i < n then some (.pointer (some ⟨g, o + i.toNat * s, none⟩)) else none
    | none => none
  | .slice (some ⟨g, o, none⟩) n _, .int _ i =>
    match slcT P T with
    | some s => if 0 ≤ i ∧ i < n then some (.pointer (some ⟨g, o + i.toNat * s, none⟩)) else none
    | none => none
  | _, _ => none
theorem aindexAddr_sound {P : Program} {φ : Phi} {T : TypeId} {x i x' i' v : Value} (h : Qb P T x i = some v) (hx : VR φ x x') (hi : VR φ i i') : Pures P φ (Instr.indexAt T x' i') v := by
  unfold Qb at h
  split at h
  · split at h
    · rename_i n s ha
      split at h
      · rename_i hb
        cases h
        obtain ⟨e, hu, hs⟩ := arrT_spec ha
        cases hi
        cases hx with
        | ptr hg =>
          refine ⟨_, .ptr hg, fun W => ?_⟩
          simp only [Instr.indexAt, Sem.run_bind, run_underlying hu, asIntOf, Instr.sureAddr, Sem.run_pure, Result.andThen_ok]
          rw [if_pos hb]
          simp only [Sem.run_bind, szT_spec hs, Result.andThen_ok, Sem.run_pure, addr_add, Nat.add_assoc]
      · cases h
    · cases h
  · split at h
    · rename_i s ha
      split at h
      · rename_i hb
        cases h
        obtain ⟨e, hu, hs⟩ := slcT_spec ha
        cases hi
        cases hx with
        | slice hg hn hr =>
          refine ⟨_, .ptr hg, fun W => ?_⟩
          simp only [Instr.indexAt, Sem.run_bind, run_underlying hu, asIntOf, Sem.run_pure, Result.andThen_ok]
          rw [if_pos hb]
          simp only [Sem.run_bind, szT_spec hs, Result.andThen_ok, Sem.run_pure, addr_add, Nat.add_assoc]
        | empty => exact absurd hb.2 (by have := hb.1; simp; omega)
      · cases h
    · cases h
  · cases h

def Qc (P : Program) (T : TypeId) (x : Value) (f : Nat) : Option Value :=
  match x, fldT P T f with
  | .pointer (some ⟨g, o, none⟩), some (off, t) => match szT P t with
    | some (s + 1) => some (.pointer (some ⟨g, o + off, none⟩))
    | _ => none
  | _, _ => none
theorem afieldAddr_sound {P : Program} {φ : Phi} {T : TypeId} {x x' v : Value} {f : Nat} (h : Qc P T x f = some v) (hx : VR φ x x') : Pures P φ (Instr.fieldAt T x' f) v := by
  unfold Qc at h
  split at h
  · rename_i g o off t hf
    split at h
    · rename_i s hs
      cases h
      obtain ⟨fs, z, hu, hz, rfl, rfl⟩ := fldT_spec hf
      cases hx with
      | ptr hg =>
        refine ⟨_, .ptr hg, fun W => ?_⟩
        simp only [Instr.fieldAt, Sem.run_bind, run_underlying hu, Result.andThen_ok, hz, Instr.sureAddr, Sem.run_pure, fieldPlace, szT_spec hs, Nat.add_one_ne_zero, if_false, addr_add, Nat.add_assoc]
    · cases h
  · cases h

def QA (P : Program) (t : TypeId) (cs : Array Value) (off : Nat) : Option Value :=
  match aggT P t with
  | some (some n) => some (.agg (cs.extract off (off + n)))
  | some none => cs[off]?
  | none => none
theorem apart_sound {P : Program} {φ : Phi} {t : TypeId} {cs cs' : Array Value} {off : Nat} {v : Value} (h : QA P t cs off = some v) (hs : cs.size = cs'.size) (hc : ∀ i (h : i < cs.size) (h' : i < cs'.size), VR φ cs[i] cs'[i]) :
    Pures P φ (part t cs' off) v := by
  unfold QA at h
  split at h
  · rename_i n ha
    cases h
    refine ⟨.agg (cs'.extract off (off + n)), .agg (by simp [hs]) (fun i h1 h2 => ?_), fun W => ?_⟩
    · simp only [Array.getElem_extract]; exact hc _ _ _
    · have hq := aggT_spec ha W
      simp [part, hq.1, szT_spec (hq.2 n rfl)]
  · rename_i ha
    have hlt : off < cs.size := (Array.getElem?_eq_some_iff.1 h).1
    have hv : cs[off] = v := (Array.getElem?_eq_some_iff.1 h).2
    have hlt' : off < cs'.size := by rw [← hs]; exact hlt
    refine ⟨cs'[off], by rw [← hv]; exact hc _ _ _, fun W => ?_⟩
    have hq := aggT_spec ha W
    simp [part, hq.1, hlt']
  · cases h
def Qt (P : Program) (T : TypeId) (x : Value) (f : Nat) : Option Value :=
  match x, fldT P T f with
  | .agg cs, some (off, t) => QA P t cs off
  | _, _ => none
theorem afield_sound {P : Program} {φ : Phi} {T : TypeId} {x x' v : Value} {f : Nat} (h : Qt P T x f = some v) (hx : VR φ x x') : Pures P φ (Instr.field T x' f) v := by
  unfold Qt at h
  split at h
  · rename_i cs off t hf
    obtain ⟨fs, z, hu, hz, rfl, rfl⟩ := fldT_spec hf
    cases hx with
    | agg hs hc =>
      obtain ⟨v', h1, h2⟩ := apart_sound h hs hc
      refine ⟨v', h1, fun W => ?_⟩
      simp only [Instr.field, Sem.run_bind, run_underlying hu, Result.andThen_ok, hz, asAgg, Sem.run_pure, h2]
  · cases h

def Qs (P : Program) (T : TypeId) (x i : Value) : Option Value :=
  match x, i with
  | .agg cs, .int _ i => match P.underlying T with
    | some (.array n e) => match szT P e with
      | some s => if 0 ≤ i ∧ i < n then QA P e cs (i.toNat * s) else none
      | none => none
    | _ => none
  | .string s, .int _ i => if strT P T then (if 0 ≤ i then (s[i.toNat]?).map (fun b => .int .u8 b.toNat) else none) else none
  | _, _ => none
theorem strT_spec {P : Program} {t : TypeId} (h : strT P t = true) : P.underlying t = some .string := by
  unfold strT at h
  split at h
  · assumption
  · cases h
theorem aindex_sound {P : Program} {φ : Phi} {T : TypeId} {x i x' i' v : Value} (h : Qs P T x i = some v) (hx : VR φ x x') (hi : VR φ i i') : Pures P φ (Instr.index T x' i') v := by
  unfold Qs at h
  split at h
  · split at h
    · rename_i n e hu
      split at h
      · rename_i s hs
        split at h
        · rename_i hb
          cases hi
          cases hx with
          | agg hsz hc =>
            obtain ⟨v', h1, h2⟩ := apart_sound h hsz hc
            refine ⟨v', h1, fun W => ?_⟩
            simp only [Instr.index, asIntOf, Sem.run_bind, Sem.run_pure, run_underlying hu, Result.andThen_ok]
            rw [if_pos hb]
            simp only [Sem.run_bind, szT_spec hs, Result.andThen_ok, h2]
        · cases h
      · cases h
    · cases h
  · split at h
    · rename_i ht
      split at h
      · rename_i hb
        cases hi; cases hx
        simp only [Option.map_eq_some_iff] at h
        obtain ⟨b, hb2, rfl⟩ := h
        refine ⟨_, .int _ _, fun W => ?_⟩
        simp only [Instr.index, asIntOf, Sem.run_bind, Sem.run_pure, run_underlying (strT_spec ht), Result.andThen_ok, if_pos hb, hb2]
      · cases h
    · cases h
  · cases h

def loN (lo : Option Value) : Option Nat := match lo with | none => some 0 | some (.int _ i) => if 0 ≤ i then some i.toNat else none | _ => none
def hiN (d : Nat) (hi : Option Value) : Option Nat := match hi with | none => some d | some (.int _ i) => if 0 ≤ i then some i.toNat else none | _ => none
inductive VRO (φ : Phi) : Option Value → Option Value → Prop
  | none : VRO φ none none
  | some {v v' : Value} (h : VR φ v v') : VRO φ (some v) (some v')
/-- x[lo:hi]: of an array's address, a slice, a string. -/
def Qr (P : Program) (T : TypeId) (x : Value) (lo hi : Option Value) : Option Value :=
  match x with
  | .pointer (some ⟨g, o, none⟩) => match arrT P T with
    | some (n, s) => match loN lo, hiN n hi with
      | some l, some h => if l ≤ h ∧ h ≤ n then some (.slice (some ⟨g, o + l * s, none⟩) (h - l) 0) else none
      | _, _ => none
    | none => none
  | .slice none 0 0 => match slcT P T, loN lo, hiN 0 hi with
    | some _, some 0, some 0 => some (.slice none 0 0)
    | _, _, _ => none
  | .slice (some ⟨g, o, none⟩) n e => match slcT P T with
    | some s => match loN lo, hiN n hi with
      | some l, some h => if l ≤ h ∧ h ≤ n then (if l < n ∨ l = 0 then some (.slice (some ⟨g, o + l * s, none⟩) (h - l) (if e = s then e else 0)) else some (.slice (some ⟨g, o + l * s, none⟩) 0 0)) else none
      | _, _ => none
    | none => none
  | .slice (some ⟨g, o, some c⟩) n e => match slcT P T with
    | some s => match loN lo, hiN n hi with
      | some l, some h => if l ≤ h ∧ h ≤ c then (if l < c ∨ l = 0 then some (.slice (some ⟨g, o + l * s, some (c - l)⟩) (h - l) (if e = s then e else 0)) else some (.slice (some ⟨g, o + l * s, none⟩) 0 0)) else none
      | _, _ => none
    | none => none
  | .string s => if strT P T then match loN lo, hiN s.size hi with
    | some l, some h => if l ≤ h ∧ h ≤ s.size then some (.string (s.extract l h)) else none
    | _, _ => none else none
  | _ => none

theorem sliceBounds_ok {P : Program} {φ : Phi} {b : Bool} {len cap l h : Nat} {lo hi lo' hi' : Option Value} (hlo : loN lo = some l) (hhi : hiN len hi = some h) (h1 : l ≤ h) (h2 : h ≤ cap) (rl : VRO φ lo lo') (rh : VRO φ hi hi') (W : World) :
    (Instr.sliceBounds b len cap lo' hi' none).run P W = .ok (l, h, cap) W := by
  have hh : ∀ (c : Instr.sliceBound (.int .i64 0) 0 .index = Instr.sliceBound (.int .i64 0) 0 .index), (match hi', (none : Option Value) with
      | some v, some _ => Instr.sliceBound v cap .slice3B
      | some v, none => Instr.sliceBound v cap (if b then .sliceAcap else .sliceAlen)
      | none, none => pure len
      | none, some _ => stuck "Slice: max without high" : Sem Nat).run P W = .ok h W := by
    intro _
    cases rh with
    | none => simp [hiN] at hhi; subst hhi; rfl
    | some hv =>
      rename_i v v'
      cases v <;> simp [hiN] at hhi
      cases hv
      obtain ⟨h3, rfl⟩ := hhi
      simp only [Instr.sliceBound, asIntOf, Sem.run_bind, Sem.run_pure, Result.andThen_ok]
      rw [if_pos ⟨h3, by omega⟩]
      rfl
  have hl : (match lo' with
      | some v => Instr.sliceBound v h (if (none : Option Value).isSome then .slice3C else .sliceB)
      | none => pure 0 : Sem Nat).run P W = .ok l W := by
    cases rl with
    | none => simp [loN] at hlo; subst hlo; rfl
    | some hv =>
      rename_i v v'
      cases v <;> simp [loN] at hlo
      cases hv
      obtain ⟨h3, rfl⟩ := hlo
      simp only [Instr.sliceBound, asIntOf, Sem.run_bind, Sem.run_pure, Result.andThen_ok]
      rw [if_pos ⟨h3, by omega⟩]
      rfl
  unfold Instr.sliceBounds
  simp only [Sem.run_bind, Sem.run_pure, Result.andThen_ok]
  have := hh rfl
  revert this hl
  cases hi' <;> cases lo' <;> intro hl hh <;> simp only [] at hl hh ⊢ <;> simp only [hh, hl, Result.andThen_ok, Sem.run_bind, Sem.run_pure] <;> simp_all

theorem aslice_sound {P : Program} {φ : Phi} {T : TypeId} {x x' v : Value} {lo hi lo' hi' : Option Value} (h : Qr P T x lo hi = some v) (hx : VR φ x x') (rl : VRO φ lo lo') (rh : VRO φ hi hi') :
    Pures P φ (Instr.sliceAt T x' lo' hi' none) v := by
  unfold Qr at h
  split at h
  · -- an array's address
    rename_i g o
    split at h
    · rename_i n s ha
      split at h
      · rename_i l hh hl hH
        split at h
        · rename_i hb
          cases h
          obtain ⟨e, hu, hs⟩ := arrT_spec ha
          have hbd := fun W => sliceBounds_ok (P := P) (b := false) (len := n) (cap := n) (lo := lo) (hi := hi) hl hH hb.1 hb.2 rl rh W
          cases hx with
          | @ptr _ _ bi hg =>
            by_cases hln : n = l
            · have h0 : hh - l = 0 := by omega
              rw [h0]
              refine ⟨_, .empty _ _ ⟨bi.blk, bi.off + o, none⟩ 0, fun W => ?_⟩
              simp only [Instr.sliceAt, Sem.run_bind, run_underlying hu, Result.andThen_ok, Instr.sureAddr, Sem.run_pure, hbd, szT_spec hs, if_pos hln, h0, show n - l = 0 by omega]
            · refine ⟨_, .slice hg (c' := n - l) (by omega) (.inl rfl), fun W => ?_⟩
              simp only [Instr.sliceAt, Sem.run_bind, run_underlying hu, Result.andThen_ok, Instr.sureAddr, Sem.run_pure, hbd, szT_spec hs, if_neg hln, addr_add, Nat.add_assoc]
        · cases h
      · cases h
    · cases h
  · -- nil
    split at h
    · rename_i s hs hl hH
      cases h
      obtain ⟨e, hu, hs⟩ := slcT_spec hs
      have hbd := fun W => sliceBounds_ok (P := P) (b := true) (len := 0) (cap := 0) (lo := lo) (hi := hi) hl hH (Nat.le_refl _) (Nat.le_refl _) rl rh W
      cases hx
      refine ⟨_, .nilslice, fun W => ?_⟩
      simp only [Instr.sliceAt, Sem.run_bind, run_underlying hu, Result.andThen_ok, Instr.slice, Sem.run_pure, hbd, szT_spec hs, if_true, Nat.sub_self]
    · cases h
  · -- a slice
    rename_i g o n e
    split at h
    · rename_i s hsT
      split at h
      · rename_i l hh hl hH
        split at h
        · rename_i hb
          obtain ⟨et, hu, hs⟩ := slcT_spec hsT
          have hbd := fun c (hc : n ≤ c) W => sliceBounds_ok (P := P) (b := true) (len := n) (cap := c) (lo := lo) (hi := hi) hl hH hb.1 (by omega) rl rh W
          cases hx with
          | empty g0 o0 a' c' =>
            have hl0 : l = 0 := by omega
            have hh0 : hh = 0 := by omega
            subst hl0; subst hh0
            simp only [or_true, if_true, Nat.zero_mul, Nat.add_zero, Nat.sub_self, ite_self] at h
            cases h
            refine ⟨_, .empty _ _ a' c', fun W => ?_⟩
            simp only [Instr.sliceAt, Sem.run_bind, run_underlying hu, Result.andThen_ok, Instr.slice, Sem.run_pure, hbd c' (by omega), szT_spec hs, Nat.zero_mul, Option.map_some, Addr.add_zero', Nat.sub_zero, ite_self]
          | @slice _ _ _ _ c' bi hg hn hr =>
            split at h <;> cases h
            · rename_i hln
              refine ⟨.slice (some ⟨bi.blk, bi.off + (o + l * s), none⟩) (hh - l) (c' - l), .slice hg (by omega) ?_, fun W => ?_⟩
              · rcases hr with hr | hr
                · exact .inl (by rw [hr]; exact ite_self 0)
                · by_cases he : e = s
                  case neg => exact .inl (if_neg he)
                  case pos =>
                    subst he
                    rw [if_pos rfl]
                    refine .inr ⟨?_, hr.2⟩
                    have : l ≤ c' := by omega
                    have : l * e + (c' - l) * e = c' * e := by rw [← Nat.add_mul]; congr 1; omega
                    have := hr.1
                    omega
              · simp only [Instr.sliceAt, Sem.run_bind, run_underlying hu, Result.andThen_ok, Instr.slice, Sem.run_pure, hbd c' hn, szT_spec hs, Option.map_some, addr_add]
                rcases hln with hln | hln
                · rw [if_neg (by omega), Nat.add_assoc]
                · subst hln; simp
            · rename_i hln
              have h0 : hh - l = 0 := by omega
              refine ⟨.slice (some (if c' = l then ⟨bi.blk, bi.off + o, none⟩ else ⟨bi.blk, bi.off + o + l * s, none⟩)) 0 (c' - l), .empty _ _ _ _, fun W => ?_⟩
              simp only [Instr.sliceAt, Sem.run_bind, run_underlying hu, Result.andThen_ok, Instr.slice, Sem.run_pure, hbd c' hn, szT_spec hs, Option.map_some, addr_add, h0]
              split <;> rfl
        · cases h
      · cases h
    · cases h
  · -- a slice of known capacity
    rename_i g o c n e
    split at h
    · rename_i s hsT
      split at h
      · rename_i l hh hl hH
        split at h
        · rename_i hb
          obtain ⟨et, hu, hs⟩ := slcT_spec hsT
          have hbd := fun W => sliceBounds_ok (P := P) (b := true) (len := n) (cap := c) (lo := lo) (hi := hi) hl hH hb.1 hb.2 rl rh W
          cases hx with
          | @sliceX _ _ _ _ _ bi hg hn hr =>
            split at h <;> cases h
            · rename_i hln
              refine ⟨.slice (some ⟨bi.blk, bi.off + (o + l * s), none⟩) (hh - l) (c - l), .sliceX hg (by omega) ?_, fun W => ?_⟩
              · rcases hr with hr | hr
                · exact .inl (by rw [hr]; exact ite_self 0)
                · by_cases he : e = s
                  case neg => exact .inl (if_neg he)
                  case pos =>
                    subst he
                    rw [if_pos rfl]
                    refine .inr ⟨?_, hr.2⟩
                    have : l ≤ c := by omega
                    have : l * e + (c - l) * e = c * e := by rw [← Nat.add_mul]; congr 1; omega
                    have := hr.1
                    omega
              · simp only [Instr.sliceAt, Sem.run_bind, run_underlying hu, Result.andThen_ok, Instr.slice, Sem.run_pure, hbd, szT_spec hs, Option.map_some, addr_add]
                rcases hln with hln | hln
                · rw [if_neg (by omega), Nat.add_assoc]
                · subst hln; simp
            · rename_i hln
              have h0 : hh - l = 0 := by omega
              refine ⟨.slice (some (if c = l then ⟨bi.blk, bi.off + o, none⟩ else ⟨bi.blk, bi.off + o + l * s, none⟩)) 0 (c - l), .empty _ _ _ _, fun W => ?_⟩
              simp only [Instr.sliceAt, Sem.run_bind, run_underlying hu, Result.andThen_ok, Instr.slice, Sem.run_pure, hbd, szT_spec hs, Option.map_some, addr_add, h0]
              split <;> rfl
        · cases h
      · cases h
    · cases h
  · -- a string
    split at h
    · rename_i s ht
      split at h
      · rename_i l hh hl hH
        split at h
        · rename_i hb
          cases h
          have hbd := fun W => sliceBounds_ok (P := P) (b := false) (len := s.size) (cap := s.size) (lo := lo) (hi := hi) hl hH hb.1 hb.2 rl rh W
          cases hx
          refine ⟨_, .string _, fun W => ?_⟩
          simp only [Instr.sliceAt, Sem.run_bind, run_underlying (strT_spec ht), Result.andThen_ok, Instr.slice, Sem.run_pure, Option.isSome_none, Bool.false_eq_true, if_false, hbd]
        · cases h
      · cases h
    · cases h
  · cases h
/-- x[lo:hi:max] of a slice, where something is left. -/
def asl3 (P : Program) (T : TypeId) (g o n e b : Nat) (lo hi mx : Value) : Option Value := match slcT P T with
  | some s => match loN (some lo), loN (some hi), loN (some mx) with
    | some l, some h, some m => if l ≤ h ∧ h ≤ m ∧ m ≤ b ∧ l < m then some (.slice (some ⟨g, o + l * s, some (m - l)⟩) (h - l) (if e = s then e else 0)) else none
    | _, _, _ => none
  | none => none
def aslice3 (P : Program) (T : TypeId) (x lo hi mx : Value) : Option Value :=
  match x with
  | .slice (some ⟨g, o, none⟩) n e => asl3 P T g o n e n lo hi mx
  | .slice (some ⟨g, o, some c⟩) n e => asl3 P T g o n e c lo hi mx
  | _ => none
theorem loN_bound {P : Program} {φ : Phi} {v v' : Value} {l b : Nat} {code : BoundsCode} (h : loN (some v) = some l) (hb : l ≤ b) (hv : VR φ v v') (W : World) : (Instr.sliceBound v' b code).run P W = .ok l W := by
  cases v <;> simp [loN] at h
  cases hv
  obtain ⟨h3, rfl⟩ := h
  simp only [Instr.sliceBound, asIntOf, Sem.run_bind, Sem.run_pure, Result.andThen_ok]
  rw [if_pos ⟨h3, by omega⟩]
  rfl
theorem asl3_sound {P : Program} {φ : Phi} {T : TypeId} {g o n e b cp : Nat} {lo hi mx lo' hi' mx' v : Value} {bi : BI} (h : asl3 P T g o n e b lo hi mx = some v) (hg : φ g = some bi) (hb : b ≤ cp) (hr : e = 0 ∨ bi.off + o + cp * e ≤ bi.room ∧ (2 ≤ e → bi.mrk = false))
    (rl : VR φ lo lo') (rh : VR φ hi hi') (rm : VR φ mx mx') : Pures P φ (Instr.sliceAt T (.slice (some ⟨bi.blk, bi.off + o, none⟩) n cp) (some lo') (some hi') (some mx')) v := by
  unfold asl3 at h
  split at h
  · rename_i s hsT
    obtain ⟨et, hu, hs⟩ := slcT_spec hsT
    split at h
    · rename_i l hh m hl hH hM
      split at h
      · rename_i hc
        cases h
        have b1 := fun W code => loN_bound (P := P) (b := cp) (code := code) hM (by omega) rm W
        have b2 := fun W code => loN_bound (P := P) (b := m) (code := code) hH (by omega) rh W
        have b3 := fun W code => loN_bound (P := P) (b := hh) (code := code) hl (by omega) rl W
        refine ⟨.slice (some ⟨bi.blk, bi.off + (o + l * s), none⟩) (hh - l) (m - l), .sliceX hg (by omega) ?_, fun W => ?_⟩
        · rcases hr with hr | hr
          · exact .inl (by rw [hr]; exact ite_self 0)
          · by_cases he : e = s
            case neg => exact .inl (if_neg he)
            case pos =>
              subst he
              rw [if_pos rfl]
              refine .inr ⟨?_, hr.2⟩
              have h1 : l * e + (m - l) * e = m * e := by rw [← Nat.add_mul]; congr 1; omega
              have h2 : m * e ≤ cp * e := Nat.mul_le_mul_right e (by omega)
              have := hr.1
              omega
        · simp only [Instr.sliceAt, Sem.run_bind, run_underlying hu, Result.andThen_ok, Instr.slice, Instr.sliceBounds, Sem.run_pure, b1, b2, b3, szT_spec hs, Option.map_some, addr_add]
          rw [if_neg (by omega), Nat.add_assoc]
      · cases h
    · cases h
  · cases h
theorem aslice3_sound {P : Program} {φ : Phi} {T : TypeId} {x x' lo hi mx lo' hi' mx' v : Value} (h : aslice3 P T x lo hi mx = some v) (hx : VR φ x x') (rl : VR φ lo lo') (rh : VR φ hi hi') (rm : VR φ mx mx') :
    Pures P φ (Instr.sliceAt T x' (some lo') (some hi') (some mx')) v := by
  unfold aslice3 at h
  split at h
  · cases hx with
    | empty g0 o0 a' c' =>
      exfalso
      unfold asl3 at h
      split at h
      · split at h
        · split at h
          · omega
          · cases h
        · cases h
      · cases h
    | slice hg hn hr => exact asl3_sound h hg hn hr rl rh rm
  · cases hx with
    | sliceX hg hn hr => exact asl3_sound h hg (Nat.le_refl _) hr rl rh rm
  · cases h
end Go.Proofs.YtldfnfpinemedaaDoor

namespace Go.Proofs.YtldfnfpinemedaaDoor
open Go
set_option linter.unusedSimpArgs false
set_option linter.unusedVariables false

def VRA (φ : Phi) (cs cs' : Array Value) : Prop := cs.size = cs'.size ∧ ∀ i (h : i < cs.size) (h' : i < cs'.size), VR φ cs[i] cs'[i]
theorem VRA.push {φ : Phi} {cs cs' : Array Value} {v v' : Value} (h : VRA φ cs cs') (hv : VR φ v v') : VRA φ (cs.push v) (cs'.push v') := by
  refine ⟨by simp [h.1], fun i h1 h2 => ?_⟩
  rw [Array.getElem_push, Array.getElem_push]
  by_cases hi : i < cs.size
  · rw [dif_pos hi, dif_pos (by rw [← h.1]; exact hi)]; exact h.2 i _ _
  · rw [dif_neg hi, dif_neg (by rw [← h.1]; exact hi)]; exact hv
theorem VRA.set {φ : Phi} {cs cs' : Array Value} {v v' : Value} (h : VRA φ cs cs') (n : Nat) (hv : VR φ v v') : VRA φ (cs.setIfInBounds n v) (cs'.setIfInBounds n v') := by
  refine ⟨by simp [h.1], fun i h1 h2 => ?_⟩
  have k1 : i < cs.size := by simpa using h1
  have k2 : i < cs'.size := by simpa using h2
  rw [Array.getElem_setIfInBounds k1, Array.getElem_setIfInBounds k2]
  split
  · exact hv
  · exact h.2 i _ _
theorem VRA.list {φ : Phi} {cs cs' : Array Value} (h : VRA φ cs cs') : VRL φ cs.toList cs'.toList := by
  refine ⟨by simpa using h.1, fun i x y hx hy => ?_⟩
  rw [Array.getElem?_toList] at hx hy
  obtain ⟨h1, rfl⟩ := Array.getElem?_eq_some_iff.1 hx
  obtain ⟨h2, rfl⟩ := Array.getElem?_eq_some_iff.1 hy
  exact h.2 i h1 h2
theorem VRL.arr {φ : Phi} {l l' : List Value} (h : VRL φ l l') : VRA φ l.toArray l'.toArray := by
  refine ⟨by simpa using h.1, fun i h1 h2 => ?_⟩
  simp only [List.getElem_toArray]
  exact h.2 i _ _ (List.getElem?_eq_getElem _) (List.getElem?_eq_getElem _)
def Qe (v : Value) : Bool := match v with | .tuple _ => false | _ => true
theorem VR.cells {φ : Phi} {v v' : Value} (h : VR φ v v') (hd : Qe v = true) : VRA φ v.cells v'.cells := by
  have one : ∀ a b : Value, VR φ a b → VRA φ #[a] #[b] := fun a b hab => ⟨rfl, fun i h1 h2 => by
    have : i = 0 := by simp at h1; omega
    subst this; exact hab⟩
  cases h with
  | agg hs h => exact ⟨hs, h⟩
  | any v' => cases hd
  | skip => cases hd
  | tuple hs h => cases hd
  | bool b => exact one _ _ (.bool b)
  | int k n => exact one _ _ (.int k n)
  | string s => exact one _ _ (.string s)
  | nilptr => exact one _ _ .nilptr
  | ptr h => exact one _ _ (.ptr h)
  | nilslice => exact one _ _ .nilslice
  | empty g0 o0 a' c' => exact one _ _ (.empty g0 o0 a' c')
  | slice h hn hr => exact one _ _ (.slice h hn hr)
  | sliceX h hn hr => exact one _ _ (.sliceX h hn hr)
  | nilmap => exact one _ _ .nilmap
  | map h => exact one _ _ (.map h)
  | func fn h1 h2 hc hd' => exact one _ _ (.func fn h1 h2 hc hd')
  | nilFunc => exact one _ _ .nilFunc
  | nilIface => exact one _ _ .nilIface
  | iface t h => exact one _ _ (.iface t h)

theorem fold_VRA {φ : Phi} (off : Nat) : ∀ (l l' : List Value) (k : Nat) (cs cs' : Array Value), VRL φ l l' → VRA φ cs cs' →
    VRA φ ((l.zipIdx k).foldl (fun cs (x : Value × Nat) => cs.setIfInBounds (off + x.2) x.1) cs) ((l'.zipIdx k).foldl (fun cs (x : Value × Nat) => cs.setIfInBounds (off + x.2) x.1) cs')
  | [], [], k, cs, cs', _, h => h
  | [], _ :: _, _, _, _, hl, _ => by have := hl.1; simp at this
  | _ :: _, [], _, _, _, hl, _ => by have := hl.1; simp at this
  | v :: l, v' :: l', k, cs, cs', hl, h => by
    simp only [List.zipIdx_cons, List.foldl_cons]
    refine fold_VRA off l l' (k + 1) _ _ ⟨by have := hl.1; simpa using this, fun i x y hx hy => hl.2 (i + 1) x y (by simpa using hx) (by simpa using hy)⟩ (h.set _ (hl.2 0 v v' rfl rfl))
theorem fill_VRA {φ : Phi} (place : Nat → Option (Nat × Nat)) (ρ ρ' : Operand → Value) : ∀ (parts : List (Nat × Operand)) (cs cs' out : Array Value), (∀ p ∈ parts, Qe (ρ p.2) = true) → (∀ p ∈ parts, VR φ (ρ p.2) (ρ' p.2)) → VRA φ cs cs' →
    Instr.fill place cs (parts.map fun p => (p.1, ρ p.2)) = some out → ∃ out', Instr.fill place cs' (parts.map fun p => (p.1, ρ' p.2)) = some out' ∧ VRA φ out out'
  | [], cs, cs', out, _, _, h, e => by simp [Instr.fill] at e; subst e; exact ⟨cs', rfl, h⟩
  | p :: parts, cs, cs', out, hd, hr, h, e => by
    simp only [List.map_cons, Instr.fill] at e ⊢
    have hc := (hr p (by simp)).cells (hd p (by simp))
    split at e
    · cases e
    · rename_i off size hp
      split at e
      · cases e
      · rename_i hn
        have hn' : ¬ ((decide ((ρ' p.2).cells.size ≠ size) || decide (off + (ρ' p.2).cells.size > cs'.size)) = true) := by rw [← hc.1, ← h.1]; exact hn
        rw [if_neg hn']
        refine fill_VRA place ρ ρ' parts _ _ out (fun q hq => hd q (by simp [hq])) (fun q hq => hr q (by simp [hq])) ?_ e
        have := fold_VRA (φ := φ) off (ρ p.2).cells.toList (ρ' p.2).cells.toList 0 cs cs' hc.list h
        rwa [← Array.toList_zipIdx, ← Array.toList_zipIdx, Array.foldl_toList, Array.foldl_toList] at this

def plainv (v : Value) : Bool := match v with | .bool _ | .int _ _ | .string _ | .pointer none | .slice none 0 0 | .nilFunc | .nilIface => true | _ => false
theorem VR.plain {φ : Phi} {v : Value} (h : plainv v = true) : VR φ v v := by
  unfold plainv at h
  split at h
  · exact .bool _
  · exact .int _ _
  · exact .string _
  · exact .nilptr
  · exact .nilslice
  · exact .nilFunc
  · exact .nilIface
  · cases h
theorem VRA.plain {φ : Phi} {cs : Array Value} (h : cs.all plainv = true) : VRA φ cs cs :=
  ⟨rfl, fun i h1 _ => VR.plain (Array.all_eq_true.1 h i h1)⟩
/-- The cells of a type's zero value, where they hold no address. -/
def zeroT (P : Program) (t : TypeId) : Option (Array Value) :=
  match (P.info? t).bind (·.zero) with
  | some z => if z.cells.all plainv then some z.cells else none
  | none => none
theorem zeroT_spec {P : Program} {φ : Phi} {t : TypeId} {cs : Array Value} (h : zeroT P t = some cs) : ∃ i z, P.info? t = some i ∧ i.zero = some z ∧ z.cells = cs ∧ VRA φ cs cs := by
  unfold zeroT at h
  split at h
  · rename_i z hz
    split at h
    · rename_i hp
      cases h
      cases hi : P.info? t with
      | none => simp [hi] at hz
      | some i => simp [hi] at hz; exact ⟨i, z, rfl, hz, rfl, VRA.plain hp⟩
    · cases h
  · cases h
def abuildV (P : Program) (T : TypeId) (parts : List (Nat × Value)) : Option Value :=
  if parts.all (fun p => Qe p.2) && (zeroT P T).isSome then (P.built T parts).map .agg else none
theorem built_VRA {P : Program} {φ : Phi} {T : TypeId} {parts : List (Nat × Operand)} {ρ ρ' : Operand → Value} {out : Array Value} (hd : ∀ p ∈ parts, Qe (ρ p.2) = true) (hr : ∀ p ∈ parts, VR φ (ρ p.2) (ρ' p.2)) (hz : (zeroT P T).isSome = true)
    (h : P.built T (parts.map fun p => (p.1, ρ p.2)) = some out) : ∃ out', P.built T (parts.map fun p => (p.1, ρ' p.2)) = some out' ∧ VRA φ out out' := by
  obtain ⟨zc, hzc⟩ := Option.isSome_iff_exists.1 hz
  obtain ⟨i, z, hi, hzz, rfl, hzr⟩ := zeroT_spec (φ := φ) hzc
  unfold Program.built at h ⊢
  rw [hi] at h ⊢
  split at h
  · rename_i it n e h1 h2
    cases h1
    simp only [h2, hzz] at h ⊢
    split at h
    · rename_i z' ie h3 h4
      cases h3
      try simp only [h4]
      exact fill_VRA _ ρ ρ' parts _ _ out hd hr hzr h
    · cases h
  · rename_i it fields h1 h2
    cases h1
    simp only [h2, hzz] at h ⊢
    split at h
    · rename_i z' places h3 h4
      cases h3
      try simp only [h4]
      exact fill_VRA _ ρ ρ' parts _ _ out hd hr hzr h
    · cases h
  · cases h
theorem abuild_sound {P : Program} {φ : Phi} {T : TypeId} {parts : Array (Nat × Operand)} {ρ ρ' : Operand → Value} {v : Value} (h : abuildV P T (parts.toList.map fun p => (p.1, ρ p.2)) = some v) (hr : ∀ p ∈ parts.toList, VR φ (ρ p.2) (ρ' p.2)) :
    Pures P φ (Instr.build T (parts.map fun (i, x) => (i, ρ' x))) v := by
  unfold abuildV at h
  split at h
  · rename_i hc
    simp only [Bool.and_eq_true] at hc
    simp only [Option.map_eq_some_iff] at h
    obtain ⟨out, ho, rfl⟩ := h
    have hd : ∀ p ∈ parts.toList, Qe (ρ p.2) = true := fun p hp => by
      have := List.all_eq_true.1 hc.1 (p.1, ρ p.2) (List.mem_map.2 ⟨p, hp, rfl⟩)
      exact this
    obtain ⟨out', ho', hv⟩ := built_VRA hd hr hc.2 ho
    refine ⟨.agg out', .agg hv.1 hv.2, fun W => run_build W T _ out' ?_⟩
    rw [Array.toList_map]
    exact ho'
  · cases h

def QG (op : UnOp) (x : Value) : Option Value :=
  match op, x with
  | .neg, .int k n => some (.int k (k.wrap (0 - n)))
  | .xor, .int k n => some (.int k (bits .xor k (if k.signed then -1 else k.max) n))
  | .not, .bool b => some (.bool !b)
  | _, _ => none
theorem aunop_sound {P : Program} {φ : Phi} {op : UnOp} {x x' v : Value} (h : QG op x = some v) (hx : VR φ x x') : Pures P φ (Op.unary op x') v := by
  unfold QG at h
  split at h <;> cases h <;> cases hx
  · exact ⟨_, .int _ _, fun W => rfl⟩
  · exact ⟨_, .int _ _, fun W => rfl⟩
  · exact ⟨_, .bool _, fun W => rfl⟩

def Qh (x : Value) (i : Nat) : Option Value :=
  match x with
  | .tuple vs => if vs.size < 2 then none else vs[i]?
  | _ => none
theorem aextract_sound {P : Program} {φ : Phi} {x x' v : Value} {i : Nat} (h : Qh x i = some v) (hx : VR φ x x') : Pures P φ (Instr.extract x' i) v := by
  unfold Qh at h
  split at h
  · split at h
    · cases h
    · rename_i vs hs
      obtain ⟨hi, rfl⟩ := Array.getElem?_eq_some_iff.1 h
      cases hx with
      | any v' => simp at hi
      | skip => simp at hs
      | tuple hsz hc =>
        rename_i cs'
        have hi' : i < cs'.size := by rw [← hsz]; exact hi
        exact ⟨cs'[i], hc i hi hi', fun W => by simp [Instr.extract, hi']⟩
  · cases h

def Qg (P : Program) (src dst : TypeId) (x : Value) : Option Value :=
  match x with
  | .int _ n => if knownT P src then (match intT P dst with | some k => some (.int k (k.wrap n)) | none => none) else none
  | .string s => if strT P src && strT P dst then some (.string s) else none
  | _ => none
theorem knownT_spec {P : Program} {t : TypeId} (h : knownT P t = true) : ∃ d, P.underlying t = some d := Option.isSome_iff_exists.1 h
theorem aconvInt_sound {P : Program} {φ : Phi} {src dst : TypeId} {x x' v : Value} (h : Qg P src dst x = some v) (hx : VR φ x x') : Pures P φ (convert src dst x') v := by
  unfold Qg at h
  split at h
  · split at h
    · rename_i hk
      obtain ⟨d, hd⟩ := knownT_spec hk
      split at h
      · rename_i k hi
        cases h; cases hx
        exact ⟨_, .int _ _, fun W => by simp [convert, run_underlying hd, run_underlying (intT_spec hi), Conv.intToInt]⟩
      · cases h
    · cases h
  · split at h
    · rename_i hk
      simp only [Bool.and_eq_true] at hk
      cases h; cases hx
      exact ⟨_, .string _, fun W => by simp [convert, run_underlying (strT_spec hk.1), run_underlying (strT_spec hk.2)]⟩
    · cases h
  · cases h

def Qa (P : Program) (T : TypeId) (x : Value) : Option Value :=
  match P.underlying T with
  | some (.interface _) => none
  | some _ => some (.iface T x)
  | none => none
theorem amakeIface_sound {P : Program} {φ : Phi} {T : TypeId} {x x' v : Value} (h : Qa P T x = some v) (hx : VR φ x x') : Pures P φ (Instr.makeInterface T x') v := by
  unfold Qa at h
  split at h
  · cases h
  · rename_i d hd hu
    cases h
    refine ⟨_, .iface T hx, fun W => ?_⟩
    simp only [Instr.makeInterface, Sem.run_bind, run_underlying hu, Result.andThen_ok]
    cases d <;> first | rfl | exact absurd rfl (hd _)
  · cases h

def Qd (x : Value) : Option Value :=
  match x with
  | .pointer (some a) => some (.pointer (some a))
  | _ => none

/-- x.(T), T no interface: the dynamic type is asked for. -/
def atypeAssert (P : Program) (x : Value) (asserted : TypeId) (commaOk : Bool) : Option Value :=
  match P.underlying asserted with
  | some (.interface _) => none
  | some _ => match x with
    | .iface t v => if t = asserted then some (if commaOk then .tuple #[v, .bool true] else v)
      else if commaOk then (match (P.info? asserted).bind (·.zero) with | some z => if plainv z || (Qe z && z.cells.all plainv) then some (.tuple #[z, .bool false]) else none | none => none) else none
    | .nilIface => if commaOk then (match (P.info? asserted).bind (·.zero) with | some z => if plainv z || (Qe z && z.cells.all plainv) then some (.tuple #[z, .bool false]) else none | none => none) else none
    | _ => none
  | none => none

def alen (P : Program) (T : TypeId) (x : Value) : Option Value :=
  match x with
  | .slice _ n _ => if sliceT P T then some (.int .i64 n) else none
  | .string s => if strT P T then some (.int .i64 s.size) else none
  | _ => match P.underlying T with
    | some (.array n _) => some (.int .i64 n)
    | some (.pointer a) => (match P.underlying a with | some (.array n _) => some (.int .i64 n) | _ => none)
    | _ => none
theorem sliceT_spec {P : Program} {t : TypeId} (h : sliceT P t = true) : ∃ e, P.underlying t = some (.slice e) := by
  unfold sliceT at h
  split at h
  · exact ⟨_, ‹_›⟩
  · cases h
theorem alen_sound {P : Program} {φ : Phi} {T ty : TypeId} {x x' v : Value} (h : alen P T x = some v) (hx : VR φ x x') : Pures P φ (Builtin.len_ #[T] ty #[x']) v := by
  unfold alen at h
  split at h
  · split at h
    · rename_i a n e hs
      obtain ⟨et, hu⟩ := sliceT_spec hs
      cases h
      refine ⟨_, .int _ _, fun W => ?_⟩
      cases hx <;> simp [Builtin.len_, run_underlying hu, goInt]
    · cases h
  · split at h
    · rename_i s hs
      cases h; cases hx
      exact ⟨_, .int _ _, fun W => by simp [Builtin.len_, run_underlying (strT_spec hs), goInt]⟩
    · cases h
  · split at h
    · rename_i n e hu
      cases h
      exact ⟨_, .int _ _, fun W => by simp [Builtin.len_, run_underlying hu, goInt]⟩
    · rename_i a hu
      split at h
      · rename_i n e hu2
        cases h
        refine ⟨_, .int _ _, fun W => ?_⟩
        simp [Builtin.len_, run_underlying hu, run_underlying hu2, goInt]
      · cases h
    · cases h

/-- cap of a slice of known capacity. -/
def acap (P : Program) (T : TypeId) (x : Value) : Option Value :=
  match x with
  | .slice (some ⟨_, _, some c⟩) _ _ => if sliceT P T then some (.int .i64 c) else none
  | .slice none 0 0 => if sliceT P T then some (.int .i64 0) else none
  | _ => none
theorem acap_sound {P : Program} {φ : Phi} {T ty : TypeId} {x x' v : Value} (h : acap P T x = some v) (hx : VR φ x x') : Pures P φ (Builtin.cap_ #[T] ty #[x']) v := by
  unfold acap at h
  split at h
  · split at h
    · rename_i g o c n e hs
      obtain ⟨et, hu⟩ := sliceT_spec hs
      cases h
      cases hx with
      | sliceX hg hn hr =>
        refine ⟨_, .int _ _, fun W => ?_⟩
        simp [Builtin.cap_, run_underlying hu, goInt]
    · cases h
  · split at h
    · rename_i hs
      obtain ⟨et, hu⟩ := sliceT_spec hs
      cases h
      cases hx
      refine ⟨_, .int _ _, fun W => ?_⟩
      simp [Builtin.cap_, run_underlying hu, goInt]
    · cases h
  · cases h

def QD (x y : Value) : Option Value :=
  match x, y with
  | .int k a, .int _ b => some (.int k (if b < a then b else a))
  | _, _ => none
def QE (x y : Value) : Option Value :=
  match x, y with
  | .int k a, .int _ b => some (.int k (if b > a then b else a))
  | _, _ => none
def Ql (mx : Bool) (l : List Value) : Option Value :=
  match l with
  | [x, y] => if mx then QE x y else QD x y
  | [x, y, z] => ((if mx then QE x y else QD x y)).bind fun v => if mx then QE v z else QD v z
  | _ => none
end Go.Proofs.YtldfnfpinemedaaDoor
