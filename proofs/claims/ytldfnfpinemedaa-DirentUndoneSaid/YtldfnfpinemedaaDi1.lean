/- dirent, plainly: the bytes of entries, the entries of bytes. -/
import Derived.Test.YtldfnfpinemedaaFlt
namespace Go.Proofs.Ytldfnfpinemedaa
open Go Go.RowKit
set_option linter.unusedSimpArgs false
set_option linter.unusedVariables false
set_option maxRecDepth 4000
abbrev En := List UInt8 × Int
def enc (x : En) : List Value := [.string (bs x.1), .int .i64 x.2]
def ez : En := ([], 0)
def oneE (x : En) : Prop := x.1 ≠ [] ∧ x.1.length ≤ 24 ∧ 0 < x.2 ∧ x.2 < 64
instance (x : En) : Decidable (oneE x) := inferInstanceAs (Decidable (_ ∧ _))
def prvE (l : List En) (j : Nat) : List UInt8 := if j = 0 then [] else (l.getD (j - 1) ez).1
def stepE (l : List En) (j : Nat) : Prop := oneE (l.getD j ez) ∧ Op.bytesLess (prvE l j) (l.getD j ez).1 = true
instance (l : List En) (j : Nat) : Decidable (stepE l j) := inferInstanceAs (Decidable (_ ∧ _))
def mayE (l : List En) : Prop := ∀ j, j < l.length → stepE l j
instance (l : List En) : Decidable (mayE l) := inferInstanceAs (Decidable (∀ j, j < l.length → stepE l j))
def txB (p : Nat) (s : List UInt8) : List UInt8 := UInt8.ofNat s.length :: (s ++ zb (p - s.length))
def nodeB (x : En) : UInt8 := UInt8.ofNat x.2.toNat
def enB (x : En) : List UInt8 := nodeB x :: txB 24 x.1
def catE (l : List En) : List UInt8 := (l.map enB).flatten
def leK (l : List En) : List UInt8 := if mayE l then catE l else []
def leE (l : List En) : Int := if mayE l then 0 else 1
def cnE (b : List UInt8) (i : Nat) : List UInt8 := (b.drop (26 * i + 1)).take 25
def ndE (b : List UInt8) (i : Nat) : UInt8 := b.getD (26 * i) 0
def enA (b : List UInt8) (i : Nat) : En := (textIn (cnE b i), ((ndE b i).toNat : Int))
def lsE (b : List UInt8) (n : Nat) : List En := (List.range n).map (enA b)
def okN (b : List UInt8) (i : Nat) : Prop := (ndE b i).toNat ≤ 63 ∧ textOk (cnE b i)
instance (b : List UInt8) (i : Nat) : Decidable (okN b i) := inferInstanceAs (Decidable (_ ∧ _))
def okE (b : List UInt8) : Prop := b.length % 26 = 0 ∧ (∀ i, i < b.length / 26 → okN b i) ∧ mayE (lsE b (b.length / 26))
instance (b : List UInt8) : Decidable (okE b) := inferInstanceAs (Decidable (_ ∧ _))
def paEL (b : List UInt8) : List En := if okE b then lsE b (b.length / 26) else []
def paEE (b : List UInt8) : Int := if okE b then 0 else 9
theorem txB_length (p : Nat) (s : List UInt8) (h : s.length ≤ p) : (txB p s).length = p + 1 := by
  rw [txB, List.length_cons, List.length_append, zb_length]; omega
theorem enB_length {x : En} (h : oneE x) : (enB x).length = 26 := by
  rw [enB, List.length_cons, txB_length _ _ h.2.1]
theorem zer_zbA (n : Nat) : zer (zb n) = true := by
  rw [zer, zb, List.all_eq_true]; intro x hx; rw [List.mem_replicate] at hx; rw [hx.2]; rfl
theorem zer_eqA (l : List UInt8) (h : zer l = true) : l = zb l.length := by
  rw [zer, List.all_eq_true] at h
  exact List.eq_replicate_iff.2 ⟨rfl, fun x hx => by simpa using h x hx⟩
theorem txB_in (x : List UInt8) (p : Nat) (hl : x.length = p + 1) (hp : p ≤ 255) (h : textOk x) : txB p (textIn x) = x ∧ (textIn x).length ≤ p := by
  match x, hl with
  | a :: r, hl =>
    rw [List.length_cons] at hl
    have hr : r.length = p := by omega
    obtain ⟨h1, h2⟩ := h
    have ha : (a :: r).getD 0 0 = a := rfl
    rw [ha] at h1 h2
    rw [List.length_cons] at h1
    have hin : textIn (a :: r) = r.take a.toNat := by rw [textIn, ha, List.drop_succ_cons, List.drop_zero]
    have hil : (r.take a.toNat).length = a.toNat := by rw [List.length_take]; omega
    rw [hin]
    refine ⟨?_, by omega⟩
    rw [txB, hil, UInt8.ofNat_toNat]
    rw [Nat.add_comm 1, List.drop_succ_cons] at h2
    have h3 := zer_eqA _ h2
    rw [List.length_drop, hr] at h3
    rw [← h3, List.take_append_drop]
theorem in_txB (s : List UInt8) (p : Nat) (h : s.length ≤ p) (hp : p ≤ 255) : textOk (txB p s) ∧ textIn (txB p s) = s := by
  have ha : (txB p s).getD 0 0 = UInt8.ofNat s.length := rfl
  have hn : (UInt8.ofNat s.length).toNat = s.length := by rw [UInt8.toNat_ofNat']; omega
  refine ⟨⟨by rw [ha, hn, txB_length _ _ h]; omega, ?_⟩, ?_⟩
  · rw [ha, hn, txB, Nat.add_comm 1, List.drop_succ_cons, List.drop_append_of_le_length (Nat.le_refl _), List.drop_length, List.nil_append]
    exact zer_zbA _
  · rw [textIn, ha, hn, txB, List.drop_succ_cons, List.drop_zero, List.take_append_of_le_length (Nat.le_refl _), List.take_length]
theorem mayE_one {l : List En} (h : mayE l) : ∀ x ∈ l, oneE x := fun x hx => by
  obtain ⟨j, hj, rfl⟩ := List.getElem_of_mem hx
  have := (h j hj).1
  rwa [List.getD_eq_getElem?_getD, List.getElem?_eq_getElem hj] at this
theorem catE_length {l : List En} (h : ∀ x ∈ l, oneE x) : (catE l).length = 26 * l.length := flatG_length 26 enB l (fun x hx => enB_length (h x hx))
theorem lsE_length (b : List UInt8) (n : Nat) : (lsE b n).length = n := by rw [lsE, List.length_map, List.length_range]
theorem lsE_succ (b : List UInt8) (n : Nat) : lsE b (n + 1) = lsE b n ++ [enA b n] := by rw [lsE, List.range_succ, List.map_append]; rfl
theorem cnE_length {b : List UInt8} (i : Nat) (hi : 26 * i + 26 ≤ b.length) : (cnE b i).length = 25 := by
  rw [cnE, List.length_take, List.length_drop]; omega
theorem nodeB_enA (b : List UInt8) (i : Nat) : nodeB (enA b i) = ndE b i := by
  unfold nodeB enA
  simp only [Int.toNat_natCast, UInt8.ofNat_toNat]
theorem catE_lsE {b : List UInt8} (n : Nat) (hn : 26 * n ≤ b.length) (h : ∀ i, i < n → okN b i) : catE (lsE b n) = b.take (26 * n) := by
  induction n with
  | zero => simp [catE, lsE]
  | succ n ih =>
    obtain ⟨h0, h1⟩ := h n (by omega)
    have e1 := (txB_in _ 24 (cnE_length n (by omega)) (by decide) h1).1
    have e3 : enB (enA b n) = ndE b n :: cnE b n := by rw [enB, nodeB_enA]; rw [show (enA b n).1 = textIn (cnE b n) from rfl, e1]
    rw [lsE_succ, catE, List.map_append, List.flatten_append]
    rw [show ((lsE b n).map enB).flatten = catE (lsE b n) from rfl, ih (by omega) (fun i hi => h i (by omega))]
    simp only [List.map_cons, List.map_nil, List.flatten_cons, List.flatten_nil, List.append_nil, e3]
    have hi : 26 * n < b.length := by omega
    rw [show 26 * (n + 1) = 26 * n + 26 by omega, List.take_add, List.drop_eq_getElem_cons hi]
    rw [List.take_succ_cons (i := 25)]
    rw [ndE, cnE, List.getD_eq_getElem?_getD, List.getElem?_eq_getElem hi]
    rfl
theorem catE_paEL {b : List UInt8} (h : okE b) : paEL b = lsE b (b.length / 26) ∧ mayE (paEL b) ∧ catE (paEL b) = b := by
  have hl : paEL b = lsE b (b.length / 26) := by rw [paEL, if_pos h]
  obtain ⟨h1, h2, h3⟩ := h
  refine ⟨hl, by rw [hl]; exact h3, ?_⟩
  rw [hl, catE_lsE _ (by omega) h2, List.take_of_length_le (by omega)]
theorem chunk_catE {l : List En} (h : ∀ x ∈ l, oneE x) (i : Nat) (hi : i < l.length) : ndE (catE l) i = nodeB l[i] ∧ cnE (catE l) i = txB 24 l[i].1 := by
  have hc := catE_length h
  have hm : 26 * i + 26 ≤ 26 * l.length := by omega
  have hx := h _ (List.getElem_mem hi)
  have h1 := txB_length 24 _ hx.2.1
  have hf := flatG 26 enB l (fun x hx => enB_length (h x hx)) i hi
  have e0 : (((catE l).drop (26 * i)).take 26) = nodeB l[i] :: txB 24 l[i].1 := hf
  have hlt : 26 * i < (catE l).length := by omega
  rw [List.drop_eq_getElem_cons hlt, List.take_succ_cons (i := 25)] at e0
  obtain ⟨e1, e2⟩ := List.cons.inj e0
  refine ⟨?_, e2⟩
  rw [ndE, List.getD_eq_getElem?_getD, List.getElem?_eq_getElem hlt]
  exact e1
theorem lsE_catE {l : List En} (h : ∀ x ∈ l, oneE x) : lsE (catE l) l.length = l := by
  apply List.ext_getElem (lsE_length _ _)
  intro i h1 h2
  have hx := h _ (List.getElem_mem h2)
  obtain ⟨e1, e2⟩ := chunk_catE h i h2
  simp only [lsE, List.getElem_map, List.getElem_range, enA, e1, e2]
  rw [(in_txB _ 24 hx.2.1 (by decide)).2]
  have h4 := hx.2.2
  have : ((nodeB l[i]).toNat : Int) = l[i].2 := by unfold nodeB; rw [UInt8.toNat_ofNat']; omega
  rw [this]
theorem okE_catE {l : List En} (h : mayE l) : okE (catE l) ∧ paEL (catE l) = l := by
  have ho := mayE_one h
  have hc := catE_length ho
  have hn : (catE l).length / 26 = l.length := by omega
  have hl := lsE_catE ho
  have hG : okE (catE l) := by
    refine ⟨by omega, fun i hi => ?_, by rw [hn, hl]; exact h⟩
    rw [hn] at hi
    have hx := ho _ (List.getElem_mem hi)
    obtain ⟨e1, e2⟩ := chunk_catE ho i hi
    rw [okN, e1, e2]
    refine ⟨?_, (in_txB _ 24 hx.2.1 (by decide)).1⟩
    have h4 := hx.2.2
    unfold nodeB; rw [UInt8.toNat_ofNat']; omega
  exact ⟨hG, by rw [(catE_paEL hG).1, hn, hl]⟩
theorem allE_iff {b : List UInt8} (h0 : b.length % 26 = 0) : (mayE (lsE b (b.length / 26)) ∧ catE (lsE b (b.length / 26)) = b) ↔ okE b := by
  constructor
  · rintro ⟨hm, e⟩
    have := (okE_catE hm).1
    rw [e] at this; exact this
  · intro h
    rw [← (catE_paEL h).1]
    exact (catE_paEL h).2
end Go.Proofs.Ytldfnfpinemedaa
