/- Memory as the walks meet it: cells of words and bytes, stores of scalars and of whole arrays, blocks behind others. -/
import Derived.Test.YtldfnfpinemedaaDoorB3
import Derived.Test.YtldfnfpinemedaaDoorC1
namespace Go.Proofs.YtldfnfpinemedaaDoor
open Go Go.RowKit
set_option linter.unusedSimpArgs false
set_option linter.unusedVariables false
set_option maxRecDepth 4000
/-- What is kept of a memory: all of its blocks. -/
def Ext (H H' : AH) : Prop := ∀ (g : Nat) (b : ABlk), H[g]? = some b → H'[g]? = some b
theorem Ext.refl (H : AH) : Ext H H := fun _ _ h => h
theorem Ext.trans {H H1 H2 : AH} (h : Ext H H1) (k : Ext H1 H2) : Ext H H2 := fun g b hb => k g b (h g b hb)
theorem Ext.push (H E : AH) : Ext H (H ++ E) := fun g b hb => by
  rw [List.getElem?_append_left (by have := (List.getElem?_eq_some_iff.1 hb).1; omega)]; exact hb
theorem Ext.pushed {H H1 : AH} (h : Ext H H1) (E : AH) : Ext H (H1 ++ E) := h.trans (Ext.push _ _)
theorem Ext.set {H H1 : AH} (h : Ext H H1) {g : Nat} (b : ABlk) (hg : H.length ≤ g) : Ext H (H1.set g b) := fun i c hc => by
  have := (List.getElem?_eq_some_iff.1 hc).1
  rw [List.getElem?_set_ne (by omega)]; exact h i c hc
theorem Ext.both {H H1 : AH} (h : Ext H H1) (g : Nat) (b : ABlk) : Ext (H.set g b) (H1.set g b) := fun i c hc => by
  have hi := (List.getElem?_eq_some_iff.1 hc).1
  rw [List.length_set] at hi
  have hi1 : i < H1.length := by
    have h1 : H[i]? = some H[i] := List.getElem?_eq_getElem hi
    exact (List.getElem?_eq_some_iff.1 (h _ _ h1)).1
  by_cases e : g = i
  · subst e
    rw [List.getElem?_set_self hi] at hc
    rw [List.getElem?_set_self hi1]; exact hc
  · rw [List.getElem?_set_ne e] at hc ⊢
    exact h i c hc
theorem Ext.pre {H E H1 : AH} (h : Ext (H ++ E) H1) : Ext H H1 := (Ext.push H E).trans h
theorem Ext.ne {H H1 : AH} {g i : Nat} {b c : ABlk} (h : Ext (H.set g b) H1) (hn : g ≠ i) (hi : H[i]? = some c) : H1[i]? = some c := h i c (by rw [List.getElem?_set_ne hn]; exact hi)
theorem Ext.self {H H1 : AH} {g : Nat} {b : ABlk} (h : Ext (H.set g b) H1) (hg : g < H.length) : H1[g]? = some b := h g b (by rw [List.getElem?_set_self hg])
theorem Ext.over {H0 H H1 : AH} {g : Nat} {b : ABlk} (h0 : Ext H0 H) (hg : H0.length ≤ g) (h : Ext (H.set g b) H1) : Ext H0 H1 := (h0.set b hg).trans h
/-- A list that is filled place by place. -/
def fillL {α : Type} (f : Nat → α) (z : List α) : Nat → List α
  | 0 => z
  | i + 1 => (fillL f z i).set i (f i)
theorem fillL_length {α : Type} (f : Nat → α) (z : List α) (i : Nat) : (fillL f z i).length = z.length := by
  induction i with
  | zero => rfl
  | succ i ih => rw [fillL, List.length_set, ih]
theorem fillL_get {α : Type} (f : Nat → α) (z : List α) (i : Nat) (hi : i ≤ z.length) (j : Nat) : (fillL f z i)[j]? = if j < i then some (f j) else z[j]? := by
  induction i with
  | zero => rw [if_neg (by omega)]; rfl
  | succ i ih =>
    rw [fillL, List.getElem?_set]
    have h1 := ih (by omega)
    by_cases e : i = j
    · subst e
      rw [if_pos rfl, if_pos (by rw [fillL_length]; omega), if_pos (by omega)]
    · rw [if_neg e, h1]
      by_cases k : j < i
      · rw [if_pos k, if_pos (by omega)]
      · rw [if_neg k, if_neg (by omega)]
theorem fillL_all {α : Type} (f : Nat → α) (z : List α) (n : Nat) (h : z.length = n) : fillL f z n = (List.range n).map f := by
  apply List.ext_getElem?
  intro j
  rw [fillL_get f z n (by omega), List.getElem?_map]
  by_cases k : j < n
  · rw [if_pos k, List.getElem?_range k]; rfl
  · rw [if_neg k, List.getElem?_eq_none (by omega), List.getElem?_eq_none (by rw [List.length_range]; omega)]; rfl
theorem Ext.length {H H1 : AH} (h : Ext H H1) : H.length ≤ H1.length := by
  by_cases e : H.length = 0
  · omega
  · have h1 : H[H.length - 1]? = some H[H.length - 1] := List.getElem?_eq_getElem (by omega)
    have := (List.getElem?_eq_some_iff.1 (h _ _ h1)).1
    omega
theorem got_lt {H : AH} {g : Nat} {b : ABlk} (h : H[g]? = some b) : g < H.length := (List.getElem?_eq_some_iff.1 h).1
theorem Ext.cells {H H1 : AH} (h : Ext H H1) {g : Nat} {cs : List Value} (hc : H.cells g = some cs) : H1.cells g = some cs := by
  rcases AH.cells_cases hc with k | k
  · exact AH.cells_own (h _ _ k)
  · exact AH.cells_ro (h _ _ k)
theorem cells_lt {H : AH} {g : Nat} {cs : List Value} (h : H.cells g = some cs) : g < H.length := by
  rcases AH.cells_cases h with k | k <;> exact got_lt k
/-- Slices that read as lists of cells. -/
def SL (H : AH) (v : Value) (vs : List Value) : Prop :=
  (v = .slice none 0 0 ∧ vs = []) ∨ ∃ g o e, v = .slice (some ⟨g, o, none⟩) vs.length e ∧ (vs = [] ∨ ∃ cs, H.cells g = some cs ∧ o + vs.length ≤ cs.length ∧ (cs.drop o).take vs.length = vs)
theorem SL.mono {H H1 : AH} (h : Ext H H1) {v : Value} {vs : List Value} (k : SL H v vs) : SL H1 v vs := by
  rcases k with k | ⟨g, o, e, h1, h2⟩
  · exact .inl k
  · refine .inr ⟨g, o, e, h1, ?_⟩
    rcases h2 with h2 | ⟨cs, h2, h3⟩
    · exact .inl h2
    · exact .inr ⟨cs, h.cells h2, h3⟩
theorem SL.of {H : AH} {g : Nat} {o e : Nat} {cs vs : List Value} (n : Nat) (hn : n = vs.length) (h : H.cells g = some cs) (h2 : o + vs.length ≤ cs.length) (h3 : (cs.drop o).take vs.length = vs) : SL H (.slice (some ⟨g, o, none⟩) n e) vs :=
  .inr ⟨g, o, e, by rw [hn], .inr ⟨cs, h, h2, h3⟩⟩
theorem SL.own {H : AH} {g e : Nat} {vs : List Value} (n : Nat) (hn : n = vs.length) (h : H[g]? = some (.own vs)) : SL H (.slice (some ⟨g, 0, none⟩) n e) vs :=
  SL.of n hn (AH.cells_own h) (by omega) (by simp)

theorem mg8 : ∀ (ws : List UInt8) (i : Nat), i < ws.length → (ws.map U8)[i]? = some (.int .u8 (((ws.getD i 0).toNat : Nat) : Int)) := fun ws i h => by rw [List.getElem?_map, List.getElem?_eq_getElem h, List.getD_eq_getElem?_getD, List.getElem?_eq_getElem h]; rfl
theorem ms8 : ∀ (ws : List UInt8) (i : Nat) (x : UInt8), (ws.map U8).set i (.int .u8 (x.toNat : Int)) = (ws.set i x).map U8 := fun ws i x => by rw [List.map_set]
theorem all8 : ∀ (ws : List UInt8), (ws.map U8).all cellv = true := fun ws => by induction ws with
  | nil => rfl
  | cons a r ih => simp only [List.map_cons, List.all_cons, ih, Bool.and_true]; rfl
theorem mg16 : ∀ (ws : List UInt16) (i : Nat), i < ws.length → (ws.map U16)[i]? = some (.int .u16 (((ws.getD i 0).toNat : Nat) : Int)) := fun ws i h => by rw [List.getElem?_map, List.getElem?_eq_getElem h, List.getD_eq_getElem?_getD, List.getElem?_eq_getElem h]; rfl
theorem ms16 : ∀ (ws : List UInt16) (i : Nat) (x : UInt16), (ws.map U16).set i (.int .u16 (x.toNat : Int)) = (ws.set i x).map U16 := fun ws i x => by rw [List.map_set]
theorem all16 : ∀ (ws : List UInt16), (ws.map U16).all cellv = true := fun ws => by induction ws with
  | nil => rfl
  | cons a r ih => simp only [List.map_cons, List.all_cons, ih, Bool.and_true]; rfl
theorem mg32 : ∀ (ws : List UInt32) (i : Nat), i < ws.length → (ws.map U32)[i]? = some (.int .u32 (((ws.getD i 0).toNat : Nat) : Int)) := fun ws i h => by rw [List.getElem?_map, List.getElem?_eq_getElem h, List.getD_eq_getElem?_getD, List.getElem?_eq_getElem h]; rfl
theorem ms32 : ∀ (ws : List UInt32) (i : Nat) (x : UInt32), (ws.map U32).set i (.int .u32 (x.toNat : Int)) = (ws.set i x).map U32 := fun ws i x => by rw [List.map_set]
theorem all32 : ∀ (ws : List UInt32), (ws.map U32).all cellv = true := fun ws => by induction ws with
  | nil => rfl
  | cons a r ih => simp only [List.map_cons, List.all_cons, ih, Bool.and_true]; rfl
theorem mg64 : ∀ (ws : List UInt64) (i : Nat), i < ws.length → (ws.map U64)[i]? = some (.int .u64 (((ws.getD i 0).toNat : Nat) : Int)) := fun ws i h => by rw [List.getElem?_map, List.getElem?_eq_getElem h, List.getD_eq_getElem?_getD, List.getElem?_eq_getElem h]; rfl
theorem ms64 : ∀ (ws : List UInt64) (i : Nat) (x : UInt64), (ws.map U64).set i (.int .u64 (x.toNat : Int)) = (ws.set i x).map U64 := fun ws i x => by rw [List.map_set]
theorem all64 : ∀ (ws : List UInt64), (ws.map U64).all cellv = true := fun ws => by induction ws with
  | nil => rfl
  | cons a r ih => simp only [List.map_cons, List.all_cons, ih, Bool.and_true]; rfl
theorem st_int : ∀ (P : Program) (H : AH) (t : TypeId) (g o : Nat) (k : IntKind) (n : Int), astore P H t (.pointer (some ⟨g, o, none⟩)) (.int k n) = (match H[g]? with | some (.own cs) => if szT P t = some 1 ∧ o + 1 ≤ cs.length then some (H.set g (.own (cs.set o (.int k n)))) else none | _ => none) := fun P H t g o k n => by
  rw [astore]
  simp only [Value.cells, ovr, List.all_cons, List.all_nil, cellv, Qe, List.length_cons, List.length_nil, Bool.and_true, Nat.zero_add, true_and]
  rfl
theorem st_bool : ∀ (P : Program) (H : AH) (t : TypeId) (g o : Nat) (n : Bool), astore P H t (.pointer (some ⟨g, o, none⟩)) (.bool n) = (match H[g]? with | some (.own cs) => if szT P t = some 1 ∧ o + 1 ≤ cs.length then some (H.set g (.own (cs.set o (.bool n)))) else none | _ => none) := fun P H t g o n => by
  rw [astore]
  simp only [Value.cells, ovr, List.all_cons, List.all_nil, cellv, Qe, List.length_cons, List.length_nil, Bool.and_true, Nat.zero_add, true_and]
  rfl
theorem st_slice : ∀ (P : Program) (H : AH) (t : TypeId) (g o : Nat) (p : Option Addr) (n e : Nat) , astore P H t (.pointer (some ⟨g, o, none⟩)) (.slice p n e) = (match H[g]? with | some (.own cs) => if szT P t = some 1 ∧ o + 1 ≤ cs.length then some (H.set g (.own (cs.set o (.slice p n e)))) else none | _ => none) := by
  intros
  rw [astore]
  simp only [Value.cells, ovr, List.all_cons, List.all_nil, cellv, Qe, List.length_cons, List.length_nil, Bool.and_true, Nat.zero_add, true_and]
  rfl
theorem st_func : ∀ (P : Program) (H : AH) (t : TypeId) (g o : Nat) (f : Fn) (a b : Array Value) , astore P H t (.pointer (some ⟨g, o, none⟩)) (.func f a b) = (match H[g]? with | some (.own cs) => if szT P t = some 1 ∧ o + 1 ≤ cs.length then some (H.set g (.own (cs.set o (.func f a b)))) else none | _ => none) := by
  intros
  rw [astore]
  simp only [Value.cells, ovr, List.all_cons, List.all_nil, cellv, Qe, List.length_cons, List.length_nil, Bool.and_true, Nat.zero_add, true_and]
  rfl
theorem st_str : ∀ (P : Program) (H : AH) (t : TypeId) (g o : Nat) (s : ByteArray) , astore P H t (.pointer (some ⟨g, o, none⟩)) (.string s) = (match H[g]? with | some (.own cs) => if szT P t = some 1 ∧ o + 1 ≤ cs.length then some (H.set g (.own (cs.set o (.string s)))) else none | _ => none) := by
  intros
  rw [astore]
  simp only [Value.cells, ovr, List.all_cons, List.all_nil, cellv, Qe, List.length_cons, List.length_nil, Bool.and_true, Nat.zero_add, true_and]
  rfl
theorem st_ptr : ∀ (P : Program) (H : AH) (t : TypeId) (g o : Nat) (p : Option Addr) , astore P H t (.pointer (some ⟨g, o, none⟩)) (.pointer p) = (match H[g]? with | some (.own cs) => if szT P t = some 1 ∧ o + 1 ≤ cs.length then some (H.set g (.own (cs.set o (.pointer p)))) else none | _ => none) := by
  intros
  rw [astore]
  simp only [Value.cells, ovr, List.all_cons, List.all_nil, cellv, Qe, List.length_cons, List.length_nil, Bool.and_true, Nat.zero_add, true_and]
  rfl
theorem st_nif : ∀ (P : Program) (H : AH) (t : TypeId) (g o : Nat) , astore P H t (.pointer (some ⟨g, o, none⟩)) (.nilIface) = (match H[g]? with | some (.own cs) => if szT P t = some 1 ∧ o + 1 ≤ cs.length then some (H.set g (.own (cs.set o (.nilIface)))) else none | _ => none) := by
  intros
  rw [astore]
  simp only [Value.cells, ovr, List.all_cons, List.all_nil, cellv, Qe, List.length_cons, List.length_nil, Bool.and_true, Nat.zero_add, true_and]
  rfl
theorem st_ifc : ∀ (P : Program) (H : AH) (t : TypeId) (g o : Nat) (t : TypeId) (x : Value) , astore P H t (.pointer (some ⟨g, o, none⟩)) (.iface t x) = (match H[g]? with | some (.own cs) => if szT P t = some 1 ∧ o + 1 ≤ cs.length then some (H.set g (.own (cs.set o (.iface t x)))) else none | _ => none) := by
  intros
  rw [astore]
  simp only [Value.cells, ovr, List.all_cons, List.all_nil, cellv, Qe, List.length_cons, List.length_nil, Bool.and_true, Nat.zero_add, true_and]
  rfl
theorem st_nfn : ∀ (P : Program) (H : AH) (t : TypeId) (g o : Nat) , astore P H t (.pointer (some ⟨g, o, none⟩)) (.nilFunc) = (match H[g]? with | some (.own cs) => if szT P t = some 1 ∧ o + 1 ≤ cs.length then some (H.set g (.own (cs.set o (.nilFunc)))) else none | _ => none) := by
  intros
  rw [astore]
  simp only [Value.cells, ovr, List.all_cons, List.all_nil, cellv, Qe, List.length_cons, List.length_nil, Bool.and_true, Nat.zero_add, true_and]
  rfl
theorem st_agg : ∀ (P : Program) (H : AH) (t : TypeId) (g o : Nat) (A : Array Value), astore P H t (.pointer (some ⟨g, o, none⟩)) (.agg A) = (match H[g]? with | some (.own cs) => if A.toList.all cellv = true ∧ szT P t = some A.toList.length ∧ o + A.toList.length ≤ cs.length then some (H.set g (.own (ovr cs o A.toList))) else none | _ => none) := fun P H t g o A => by
  rw [astore]
  simp only [Value.cells, Qe, true_and]
  rfl
theorem ovr_all : ∀ (cs vs : List Value), vs.length = cs.length → ovr cs 0 vs = vs := fun cs vs h => by
  unfold ovr
  split
  · rename_i v
    match cs, h with
    | [c], _ => rfl
  · rw [if_pos ⟨rfl, h⟩]
theorem ncast : ∀ n : Nat, (((no_index (OfNat.ofNat n) : Nat)) : Int) = no_index (OfNat.ofNat n) := fun n => rfl
theorem gat : ∀ (H : AH) (b : ABlk) (i : Nat), i = H.length → (H ++ [b])[i]? = some b := fun H b i h => by subst h; rw [List.getElem?_append_right (Nat.le_refl _), Nat.sub_self]; rfl
theorem sat : ∀ (H : AH) (a b : ABlk) (i : Nat), i = H.length → (H ++ [a]).set i b = H ++ [b] := fun H a b i h => by subst h; rw [List.set_append_right _ _ (Nat.le_refl _), Nat.sub_self]; rfl
theorem setl : ∀ (H E : AH) (b : ABlk) (i : Nat), i < H.length → (H ++ E).set i b = H.set i b ++ E := fun H E b i h => by rw [List.set_append_left _ _ h]
theorem adl : ∀ n a b : Nat, n + no_index (OfNat.ofNat a) + no_index (OfNat.ofNat b) = n + (OfNat.ofNat a + OfNat.ofNat b) := fun n a b => Nat.add_assoc _ _ _
theorem imin : ∀ a b : Nat, (if b < a then (b : Int) else (a : Int)) = ((min a b : Nat) : Int) := fun a b => by split <;> omega
theorem imax : ∀ a b : Nat, (if b > a then (b : Int) else (a : Int)) = ((max a b : Nat) : Int) := fun a b => by split <;> omega
theorem gpush : ∀ (H : AH) (b : ABlk), (H ++ [b])[H.length]? = some b := fun H b => by rw [List.getElem?_append_right (Nat.le_refl _), Nat.sub_self]; rfl
theorem gpl : ∀ (H E : AH) (g : Nat), g < H.length → (H ++ E)[g]? = H[g]? := fun H E g h => List.getElem?_append_left h
theorem gpr : ∀ (H E : AH) (k : Nat), (H ++ E)[H.length + k]? = E[k]? := fun H E k => by rw [List.getElem?_append_right (Nat.le_add_right _ _), Nat.add_sub_cancel_left]
theorem gset : ∀ (H : AH) (g : Nat) (b : ABlk), g < H.length → (H.set g b)[g]? = some b := fun H g b h => by rw [List.getElem?_set_self h]
theorem gsetn : ∀ (H : AH) (g i : Nat) (b : ABlk), ¬ g = i → (H.set g b)[i]? = H[i]? := fun H g i b h => by rw [List.getElem?_set_ne h]
theorem cat : ∀ (H : AH) (cs : List Value) (i : Nat), i = H.length → (AH.cells (H ++ [.own cs]) i) = some cs := fun H b i h => AH.cells_own (gat _ _ _ h)
theorem cpl : ∀ (H E : AH) (i : Nat), i < H.length → AH.cells (H ++ E) i = AH.cells H i := fun H E i h => by simp only [AH.cells, gpl _ _ _ h]
theorem cset : ∀ (H : AH) (g : Nat) (cs : List Value), g < H.length → AH.cells (H.set g (.own cs)) g = some cs := fun H g b h => AH.cells_own (by rw [List.getElem?_set_self h])
theorem csetn : ∀ (H : AH) (g i : Nat) (b : ABlk), ¬ g = i → AH.cells (H.set g b) i = AH.cells H i := fun H g i b h => by simp only [AH.cells, List.getElem?_set_ne h]
theorem gsets : ∀ (H : AH) (g : Nat) (b c : ABlk), (H.set g b).set g c = H.set g c := fun H g b c => by rw [List.set_set]
theorem lset : ∀ (H : AH) (g : Nat) (b : ABlk), (H.set g b).length = H.length := fun H g b => List.length_set
theorem lmap : ∀ {α β : Type} (f : α → β) (l : List α), (l.map f).length = l.length := fun f l => List.length_map f
theorem lsetg : ∀ {α : Type} (l : List α) (i : Nat) (a : α), (l.set i a).length = l.length := fun l i a => List.length_set
theorem lsize : ∀ {α : Type} (l : List α), l.toArray.size = l.length := fun l => rfl
theorem lta : ∀ {α : Type} (l : List α), l.toArray.toList = l := fun l => rfl
theorem SL.at {H : AH} {v : Value} {vs : List Value} (h : SL H v vs) (hn : 0 < vs.length) : ∃ g o e cs, v = .slice (some ⟨g, o, none⟩) vs.length e ∧ H.cells g = some cs ∧ g < H.length ∧ o + vs.length ≤ cs.length ∧ (∀ i, i < vs.length → cs[o + i]? = vs[i]?) ∧ cs[o]? = vs[0]? := by
  rcases h with ⟨_, h⟩ | ⟨g, o, e, rfl, h⟩
  · subst h; simp at hn
  rcases h with h | ⟨cs, hc, h1, h2⟩
  · subst h; simp at hn
  have key : ∀ i, i < vs.length → cs[o + i]? = vs[i]? := fun i hi => by
    rw [← h2, List.getElem?_take, List.getElem?_drop, if_pos hi]
  exact ⟨g, o, e, cs, rfl, hc, cells_lt hc, h1, key, key 0 hn⟩
theorem SL.bytes {H : AH} {v : Value} {bs : List UInt8} (h : SL H v (bs.map U8)) (hn : 0 < bs.length) : ∃ g o e cs, v = .slice (some ⟨g, o, none⟩) bs.length e ∧ H.cells g = some cs ∧ g < H.length ∧ o + bs.length ≤ cs.length ∧ (∀ i, i < bs.length → cs[o + i]? = some (.int .u8 (((bs.getD i 0).toNat : Nat) : Int))) ∧ cs[o]? = some (.int .u8 (((bs.getD 0 0).toNat : Nat) : Int)) := by
  obtain ⟨g, o, e, cs, h1, h2, h3, h4, h5, h6⟩ := h.at (by rw [List.length_map]; exact hn)
  rw [List.length_map] at h1 h4 h5
  refine ⟨g, o, e, cs, h1, h2, h3, h4, fun i hi => ?_, ?_⟩
  · rw [h5 i hi]; exact mg8 _ _ hi
  · rw [h6]; exact mg8 _ _ hn
theorem SL.part {α : Type} {H : AH} {g o e : Nat} {f : α → Value} {bs : List α} (n : Nat) (hc : H.cells g = some (bs.map f)) (h : o + n ≤ bs.length) : SL H (.slice (some ⟨g, o, none⟩) n e) (((bs.drop o).take n).map f) := by
  have hl : n = (((bs.drop o).take n).map f).length := by rw [List.length_map, List.length_take, List.length_drop]; omega
  refine SL.of n hl hc (by rw [← hl, List.length_map]; exact h) ?_
  rw [← hl, ← List.map_drop, ← List.map_take]
theorem SL.tail {α : Type} {H : AH} {g o e : Nat} {f : α → Value} {bs : List α} (n : Nat) (hc : H.cells g = some (bs.map f)) (h : o + n = bs.length) : SL H (.slice (some ⟨g, o, none⟩) n e) ((bs.drop o).map f) := by
  have := SL.part (e := e) n hc (Nat.le_of_eq h)
  rwa [List.take_of_length_le (by rw [List.length_drop]; omega)] at this
theorem SL.whole {α : Type} {H : AH} {g e : Nat} {f : α → Value} {bs : List α} (n : Nat) (hc : H.cells g = some (bs.map f)) (h : n = bs.length) : SL H (.slice (some ⟨g, 0, none⟩) n e) (bs.map f) := by
  have := SL.tail (o := 0) (e := e) n hc (by omega)
  rwa [List.drop_zero] at this
theorem SL.len {H : AH} {v : Value} {vs : List Value} (h : SL H v vs) : (∃ a e, v = .slice (some a) vs.length e) ∨ (v = .slice none 0 0 ∧ vs = []) := by
  rcases h with h | ⟨g, o, e, h, _⟩
  · exact .inr h
  · exact .inl ⟨_, _, h⟩

theorem mm : (∀ (ws : List UInt8) (i : Nat), i < ws.length → (ws.map U8)[i]? = some (.int .u8 (((ws.getD i 0).toNat : Nat) : Int))) ∧
  (∀ (ws : List UInt8) (i : Nat) (x : UInt8), (ws.map U8).set i (.int .u8 (x.toNat : Int)) = (ws.set i x).map U8) ∧
  (∀ (ws : List UInt8), (ws.map U8).all cellv = true) ∧
  (∀ (ws : List UInt16) (i : Nat), i < ws.length → (ws.map U16)[i]? = some (.int .u16 (((ws.getD i 0).toNat : Nat) : Int))) ∧
  (∀ (ws : List UInt16) (i : Nat) (x : UInt16), (ws.map U16).set i (.int .u16 (x.toNat : Int)) = (ws.set i x).map U16) ∧
  (∀ (ws : List UInt16), (ws.map U16).all cellv = true) ∧
  (∀ (ws : List UInt32) (i : Nat), i < ws.length → (ws.map U32)[i]? = some (.int .u32 (((ws.getD i 0).toNat : Nat) : Int))) ∧
  (∀ (ws : List UInt32) (i : Nat) (x : UInt32), (ws.map U32).set i (.int .u32 (x.toNat : Int)) = (ws.set i x).map U32) ∧
  (∀ (ws : List UInt32), (ws.map U32).all cellv = true) ∧
  (∀ (ws : List UInt64) (i : Nat), i < ws.length → (ws.map U64)[i]? = some (.int .u64 (((ws.getD i 0).toNat : Nat) : Int))) ∧
  (∀ (ws : List UInt64) (i : Nat) (x : UInt64), (ws.map U64).set i (.int .u64 (x.toNat : Int)) = (ws.set i x).map U64) ∧
  (∀ (ws : List UInt64), (ws.map U64).all cellv = true) ∧
  (∀ (P : Program) (H : AH) (t : TypeId) (g o : Nat) (k : IntKind) (n : Int), astore P H t (.pointer (some ⟨g, o, none⟩)) (.int k n) = (match H[g]? with | some (.own cs) => if szT P t = some 1 ∧ o + 1 ≤ cs.length then some (H.set g (.own (cs.set o (.int k n)))) else none | _ => none)) ∧
  (∀ (P : Program) (H : AH) (t : TypeId) (g o : Nat) (n : Bool), astore P H t (.pointer (some ⟨g, o, none⟩)) (.bool n) = (match H[g]? with | some (.own cs) => if szT P t = some 1 ∧ o + 1 ≤ cs.length then some (H.set g (.own (cs.set o (.bool n)))) else none | _ => none)) ∧
  (∀ (P : Program) (H : AH) (t : TypeId) (g o : Nat) (p : Option Addr) (n e : Nat) , astore P H t (.pointer (some ⟨g, o, none⟩)) (.slice p n e) = (match H[g]? with | some (.own cs) => if szT P t = some 1 ∧ o + 1 ≤ cs.length then some (H.set g (.own (cs.set o (.slice p n e)))) else none | _ => none)) ∧
  (∀ (P : Program) (H : AH) (t : TypeId) (g o : Nat) (f : Fn) (a b : Array Value) , astore P H t (.pointer (some ⟨g, o, none⟩)) (.func f a b) = (match H[g]? with | some (.own cs) => if szT P t = some 1 ∧ o + 1 ≤ cs.length then some (H.set g (.own (cs.set o (.func f a b)))) else none | _ => none)) ∧
  (∀ (P : Program) (H : AH) (t : TypeId) (g o : Nat) (s : ByteArray) , astore P H t (.pointer (some ⟨g, o, none⟩)) (.string s) = (match H[g]? with | some (.own cs) => if szT P t = some 1 ∧ o + 1 ≤ cs.length then some (H.set g (.own (cs.set o (.string s)))) else none | _ => none)) ∧
  (∀ (P : Program) (H : AH) (t : TypeId) (g o : Nat) (p : Option Addr) , astore P H t (.pointer (some ⟨g, o, none⟩)) (.pointer p) = (match H[g]? with | some (.own cs) => if szT P t = some 1 ∧ o + 1 ≤ cs.length then some (H.set g (.own (cs.set o (.pointer p)))) else none | _ => none)) ∧
  (∀ (P : Program) (H : AH) (t : TypeId) (g o : Nat) , astore P H t (.pointer (some ⟨g, o, none⟩)) (.nilIface) = (match H[g]? with | some (.own cs) => if szT P t = some 1 ∧ o + 1 ≤ cs.length then some (H.set g (.own (cs.set o (.nilIface)))) else none | _ => none)) ∧
  (∀ (P : Program) (H : AH) (t : TypeId) (g o : Nat) (t : TypeId) (x : Value) , astore P H t (.pointer (some ⟨g, o, none⟩)) (.iface t x) = (match H[g]? with | some (.own cs) => if szT P t = some 1 ∧ o + 1 ≤ cs.length then some (H.set g (.own (cs.set o (.iface t x)))) else none | _ => none)) ∧
  (∀ (P : Program) (H : AH) (t : TypeId) (g o : Nat) , astore P H t (.pointer (some ⟨g, o, none⟩)) (.nilFunc) = (match H[g]? with | some (.own cs) => if szT P t = some 1 ∧ o + 1 ≤ cs.length then some (H.set g (.own (cs.set o (.nilFunc)))) else none | _ => none)) ∧
  (∀ (P : Program) (H : AH) (t : TypeId) (g o : Nat) (A : Array Value), astore P H t (.pointer (some ⟨g, o, none⟩)) (.agg A) = (match H[g]? with | some (.own cs) => if A.toList.all cellv = true ∧ szT P t = some A.toList.length ∧ o + A.toList.length ≤ cs.length then some (H.set g (.own (ovr cs o A.toList))) else none | _ => none)) ∧
  (∀ n : Nat, (((no_index (OfNat.ofNat n) : Nat)) : Int) = no_index (OfNat.ofNat n)) ∧
  (∀ (H : AH) (b : ABlk) (i : Nat), i = H.length → (H ++ [b])[i]? = some b) ∧
  (∀ (H : AH) (a b : ABlk) (i : Nat), i = H.length → (H ++ [a]).set i b = H ++ [b]) ∧
  (∀ (H E : AH) (b : ABlk) (i : Nat), i < H.length → (H ++ E).set i b = H.set i b ++ E) ∧
  (∀ n a b : Nat, n + no_index (OfNat.ofNat a) + no_index (OfNat.ofNat b) = n + (OfNat.ofNat a + OfNat.ofNat b)) ∧
  (∀ a b : Nat, (if b < a then (b : Int) else (a : Int)) = ((min a b : Nat) : Int)) ∧
  (∀ a b : Nat, (if b > a then (b : Int) else (a : Int)) = ((max a b : Nat) : Int)) ∧
  (∀ (H : AH) (b : ABlk), (H ++ [b])[H.length]? = some b) ∧
  (∀ (H E : AH) (g : Nat), g < H.length → (H ++ E)[g]? = H[g]?) ∧
  (∀ (H E : AH) (k : Nat), (H ++ E)[H.length + k]? = E[k]?) ∧
  (∀ (H : AH) (g : Nat) (b : ABlk), g < H.length → (H.set g b)[g]? = some b) ∧
  (∀ (H : AH) (g i : Nat) (b : ABlk), ¬ g = i → (H.set g b)[i]? = H[i]?) ∧
  (∀ (H : AH) (cs : List Value) (i : Nat), i = H.length → (AH.cells (H ++ [.own cs]) i) = some cs) ∧
  (∀ (H E : AH) (i : Nat), i < H.length → AH.cells (H ++ E) i = AH.cells H i) ∧
  (∀ (H : AH) (g : Nat) (cs : List Value), g < H.length → AH.cells (H.set g (.own cs)) g = some cs) ∧
  (∀ (H : AH) (g i : Nat) (b : ABlk), ¬ g = i → AH.cells (H.set g b) i = AH.cells H i) ∧
  (∀ (H : AH) (g : Nat) (b c : ABlk), (H.set g b).set g c = H.set g c) ∧
  (∀ (H : AH) (g : Nat) (b : ABlk), (H.set g b).length = H.length) ∧
  (∀ {α β : Type} (f : α → β) (l : List α), (l.map f).length = l.length) ∧
  (∀ {α : Type} (l : List α) (i : Nat) (a : α), (l.set i a).length = l.length) ∧
  (∀ {α : Type} (l : List α), l.toArray.size = l.length) ∧
  (∀ {α : Type} (l : List α), l.toArray.toList = l) := ⟨mg8, ms8, all8, mg16, ms16, all16, mg32, ms32, all32, mg64, ms64, all64, st_int, st_bool, st_slice, st_func, st_str, st_ptr, st_nif, st_ifc, st_nfn, st_agg, ncast, gat, sat, setl, adl, imin, imax, gpush, gpl, gpr, gset, gsetn, cat, cpl, cset, csetn, gsets, lset, lmap, lsetg, lsize, lta⟩
end Go.Proofs.YtldfnfpinemedaaDoor
