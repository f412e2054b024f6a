/- attr, plainly: the page of pairs, the pairs of a page. -/
import Derived.Test.YtfdpmffcdafmgaaDoorFlt
namespace Go.Proofs.YtfdpmffcdafmgaaDoor
open Go Go.RowKit
set_option linter.unusedSimpArgs false
set_option linter.unusedVariables false
set_option maxRecDepth 4000
abbrev Pr := List UInt8 × List UInt8
def prc (x : Pr) : List Value := [.string (bs x.1), .string (bs x.2)]
def dz : Pr := ([], [])
def oneP (x : Pr) : Prop := x.1 ≠ [] ∧ x.1.length ≤ 15 ∧ x.2.length ≤ 31
instance (x : Pr) : Decidable (oneP x) := inferInstanceAs (Decidable (_ ∧ _))
def prv (l : List Pr) (j : Nat) : List UInt8 := if j = 0 then [] else (l.getD (j - 1) dz).1
def stepP (l : List Pr) (j : Nat) : Prop := oneP (l.getD j dz) ∧ Op.bytesLess (prv l j) (l.getD j dz).1 = true
instance (l : List Pr) (j : Nat) : Decidable (stepP l j) := inferInstanceAs (Decidable (_ ∧ _))
def mayP (l : List Pr) : Prop := (∀ j, j < l.length → stepP l j) ∧ l.length ≤ 5
instance (l : List Pr) : Decidable (mayP l) := inferInstanceAs (Decidable (_ ∧ _))
def txB (p : Nat) (s : List UInt8) : List UInt8 := UInt8.ofNat s.length :: (s ++ zb (p - s.length))
def prB (x : Pr) : List UInt8 := txB 15 x.1 ++ txB 31 x.2
def catP (l : List Pr) : List UInt8 := (l.map prB).flatten
def pgA (l : List Pr) : List UInt8 := UInt8.ofNat l.length :: (catP l ++ zb (255 - 48 * l.length))
def ltK (l : List Pr) : List UInt8 := if mayP l then pgA l else []
def ltE (l : List Pr) : Int := if mayP l then 0 else 1
def nB (page : List UInt8) : Nat := (page.getD 0 0).toNat
def cN (page : List UInt8) (i : Nat) : List UInt8 := (page.drop (1 + 48 * i)).take 16
def cV (page : List UInt8) (i : Nat) : List UInt8 := (page.drop (1 + 48 * i + 16)).take 32
def prA (page : List UInt8) (i : Nat) : Pr := (textIn (cN page i), textIn (cV page i))
def lsA (page : List UInt8) (n : Nat) : List Pr := (List.range n).map (prA page)
def okA (page : List UInt8) : Prop := page.length = 256 ∧ nB page ≤ 5 ∧ (∀ i, i < nB page → textOk (cN page i) ∧ textOk (cV page i)) ∧ zer (page.drop (1 + 48 * nB page)) = true ∧ mayP (lsA page (nB page))
instance (page : List UInt8) : Decidable (okA page) := inferInstanceAs (Decidable (_ ∧ _))
def paL (page : List UInt8) : List Pr := if okA page then lsA page (nB page) else []
def paE (page : List UInt8) : Int := if page.length = 256 then (if okA page then 0 else 9) else 1
theorem txB_length (p : Nat) (s : List UInt8) (h : s.length ≤ p) : (txB p s).length = p + 1 := by
  rw [txB, List.length_cons, List.length_append, zb_length]; omega
theorem prB_length {x : Pr} (h : oneP x) : (prB x).length = 48 := by
  rw [prB, List.length_append, txB_length _ _ h.2.1, txB_length _ _ h.2.2]
theorem zer_zbA (n : Nat) : zer (zb n) = true := by
  rw [zer, zb, List.all_eq_true]; intro x hx; rw [List.mem_replicate] at hx; rw [hx.2]; rfl
theorem zer_eqA (l : List UInt8) (h : zer l = true) : l = zb l.length := by
  rw [zer, List.all_eq_true] at h
  exact List.eq_replicate_iff.2 ⟨rfl, fun x hx => by simpa using h x hx⟩
theorem txB_in (x : List UInt8) (p : Nat) (hl : x.length = p + 1) (hp : p ≤ 255) (h : textOk x) : txB p (textIn x) = x ∧ (textIn x).length ≤ p := by
  match x, hl with
  | a :: r, hl =>
    rw [List.length_cons] at hl
    have hr : r.length = p := by omega
    obtain ⟨h1, h2⟩ := h
    have ha : (a :: r).getD 0 0 = a := rfl
    rw [ha] at h1 h2
    rw [List.length_cons] at h1
    have hin : textIn (a :: r) = r.take a.toNat := by rw [textIn, ha, List.drop_succ_cons, List.drop_zero]
    have hil : (r.take a.toNat).length = a.toNat := by rw [List.length_take]; omega
    rw [hin]
    refine ⟨?_, by omega⟩
    rw [txB, hil, UInt8.ofNat_toNat]
    rw [Nat.add_comm 1, List.drop_succ_cons] at h2
    have h3 := zer_eqA _ h2
    rw [List.length_drop, hr] at h3
    rw [← h3, List.take_append_drop]
theorem in_txB (s : List UInt8) (p : Nat) (h : s.length ≤ p) (hp : p ≤ 255) : textOk (txB p s) ∧ textIn (txB p s) = s := by
  have ha : (txB p s).getD 0 0 = UInt8.ofNat s.length := rfl
  have hn : (UInt8.ofNat s.length).toNat = s.length := by rw [UInt8.toNat_ofNat']; omega
  refine ⟨⟨by rw [ha, hn, txB_length _ _ h]; omega, ?_⟩, ?_⟩
  · rw [ha, hn, txB, Nat.add_comm 1, List.drop_succ_cons, List.drop_append_of_le_length (Nat.le_refl _), List.drop_length, List.nil_append]
    exact zer_zbA _
  · rw [textIn, ha, hn, txB, List.drop_succ_cons, List.drop_zero, List.take_append_of_le_length (Nat.le_refl _), List.take_length]
theorem may_one {l : List Pr} (h : mayP l) : ∀ x ∈ l, oneP x := fun x hx => by
  obtain ⟨j, hj, rfl⟩ := List.getElem_of_mem hx
  have := (h.1 j hj).1
  rwa [List.getD_eq_getElem?_getD, List.getElem?_eq_getElem hj] at this
theorem catP_length {l : List Pr} (h : ∀ x ∈ l, oneP x) : (catP l).length = 48 * l.length := flatG_length 48 prB l (fun x hx => prB_length (h x hx))
theorem pgA_length {l : List Pr} (h : mayP l) : (pgA l).length = 256 := by
  rw [pgA, List.length_cons, List.length_append, catP_length (may_one h), zb_length]
  have := h.2; omega
theorem lsA_length (page : List UInt8) (n : Nat) : (lsA page n).length = n := by rw [lsA, List.length_map, List.length_range]
theorem lsA_succ (page : List UInt8) (n : Nat) : lsA page (n + 1) = lsA page n ++ [prA page n] := by rw [lsA, List.range_succ, List.map_append]; rfl
theorem cN_length {page : List UInt8} (h : page.length = 256) (i : Nat) (hi : i < 5) : (cN page i).length = 16 := by
  rw [cN, List.length_take, List.length_drop]; omega
theorem cV_length {page : List UInt8} (h : page.length = 256) (i : Nat) (hi : i < 5) : (cV page i).length = 32 := by
  rw [cV, List.length_take, List.length_drop]; omega
theorem catP_lsA {page : List UInt8} (hl : page.length = 256) (n : Nat) (hn : n ≤ 5) (h : ∀ i, i < n → textOk (cN page i) ∧ textOk (cV page i)) : catP (lsA page n) = (page.drop 1).take (48 * n) := by
  induction n with
  | zero => simp [catP, lsA]
  | succ n ih =>
    obtain ⟨h1, h2⟩ := h n (by omega)
    have e1 := (txB_in _ 15 (cN_length hl n (by omega)) (by decide) h1).1
    have e2 := (txB_in _ 31 (cV_length hl n (by omega)) (by decide) h2).1
    have e3 : prB (prA page n) = cN page n ++ cV page n := by rw [prB, prA, e1, e2]
    rw [lsA_succ, catP, List.map_append, List.flatten_append]
    rw [show ((lsA page n).map prB).flatten = catP (lsA page n) from rfl, ih (by omega) (fun i hi => h i (by omega))]
    simp only [List.map_cons, List.map_nil, List.flatten_cons, List.flatten_nil, List.append_nil, e3]
    have e4 : (page.drop (1 + 48 * n)).take 48 = (page.drop (1 + 48 * n)).take 16 ++ (page.drop (1 + 48 * n + 16)).take 32 := by rw [show (48 : Nat) = 16 + 32 from rfl, List.take_add, List.drop_drop]
    rw [cN, cV, ← e4, show 48 * (n + 1) = 48 * n + 48 by omega, List.take_add, List.drop_drop, Nat.add_comm 1]
theorem pgA_paL {page : List UInt8} (h : okA page) : paL page = lsA page (nB page) ∧ mayP (paL page) ∧ pgA (paL page) = page := by
  have hl : paL page = lsA page (nB page) := by rw [paL, if_pos h]
  obtain ⟨h1, h2, h3, h4, h5⟩ := h
  refine ⟨hl, by rw [hl]; exact h5, ?_⟩
  rw [hl, pgA, lsA_length, catP_lsA h1 _ h2 h3]
  have h6 := zer_eqA _ h4
  rw [List.length_drop, h1, show 256 - (1 + 48 * nB page) = 255 - 48 * nB page by omega] at h6
  rw [← h6]
  match page, h1 with
  | x :: r, h1 =>
    have hx : UInt8.ofNat (nB (x :: r)) = x := by show UInt8.ofNat x.toNat = x; exact UInt8.ofNat_toNat
    rw [hx, List.drop_succ_cons, List.drop_zero, Nat.add_comm 1, List.drop_succ_cons, List.take_append_drop]
theorem nB_pgA {l : List Pr} (h5 : l.length ≤ 5) : nB (pgA l) = l.length := by
  show (UInt8.ofNat l.length).toNat = l.length
  rw [UInt8.toNat_ofNat']; omega
theorem chunk_pgA {l : List Pr} (h : ∀ x ∈ l, oneP x) (i : Nat) (hi : i < l.length) : cN (pgA l) i = txB 15 l[i].1 ∧ cV (pgA l) i = txB 31 l[i].2 := by
  have hc := catP_length h
  have hm : 48 * i + 48 ≤ 48 * l.length := by omega
  have hx := h _ (List.getElem_mem hi)
  have h1 := txB_length 15 _ hx.2.1
  have hf := flatG 48 prB l (fun x hx => prB_length (h x hx)) i hi
  have hfl : (List.drop (48 * i) (catP l)).length = 48 * l.length - 48 * i := by rw [List.length_drop, hc]
  have hd : (pgA l).drop (1 + 48 * i) = (catP l).drop (48 * i) ++ zb (255 - 48 * l.length) := by
    rw [pgA, Nat.add_comm 1, List.drop_succ_cons, List.drop_append_of_le_length (by omega)]
  have e0 : (((catP l).drop (48 * i)).take 48) = txB 15 l[i].1 ++ txB 31 l[i].2 := hf
  refine ⟨?_, ?_⟩
  · rw [cN, hd, List.take_append_of_le_length (by omega)]
    have : ((((catP l).drop (48 * i)).take 48).take 16) = txB 15 l[i].1 := by rw [e0, List.take_append_of_le_length (by omega), List.take_of_length_le (by omega)]
    rwa [List.take_take] at this
  · rw [cV, ← List.drop_drop (i := 16), hd, List.drop_append_of_le_length (by omega), List.take_append_of_le_length (by rw [List.length_drop]; omega)]
    have : ((((catP l).drop (48 * i)).take 48).drop 16) = txB 31 l[i].2 := by rw [e0, List.drop_append_of_le_length (by omega), List.drop_of_length_le (by omega), List.nil_append]
    rw [List.drop_take] at this
    exact this
theorem lsA_pgA {l : List Pr} (h : mayP l) : lsA (pgA l) l.length = l := by
  apply List.ext_getElem (lsA_length _ _)
  intro i h1 h2
  have hx := may_one h _ (List.getElem_mem h2)
  obtain ⟨e1, e2⟩ := chunk_pgA (may_one h) i h2
  simp only [lsA, List.getElem_map, List.getElem_range, prA, e1, e2]
  rw [(in_txB _ 15 hx.2.1 (by decide)).2, (in_txB _ 31 hx.2.2 (by decide)).2]
theorem okA_pgA {l : List Pr} (h : mayP l) : okA (pgA l) ∧ paL (pgA l) = l := by
  have hn := nB_pgA h.2
  have hc := catP_length (may_one h)
  have hl := lsA_pgA h
  have hG : okA (pgA l) := by
    refine ⟨pgA_length h, by rw [hn]; exact h.2, fun i hi => ?_, ?_, by rw [hn, hl]; exact h⟩
    · rw [hn] at hi
      have hx := may_one h _ (List.getElem_mem hi)
      obtain ⟨e1, e2⟩ := chunk_pgA (may_one h) i hi
      rw [e1, e2]
      exact ⟨(in_txB _ 15 hx.2.1 (by decide)).1, (in_txB _ 31 hx.2.2 (by decide)).1⟩
    · rw [hn, pgA, Nat.add_comm 1, List.drop_succ_cons, List.drop_append_of_le_length (by omega), List.drop_of_length_le (by omega), List.nil_append]
      exact zer_zbA _
  exact ⟨hG, by rw [(pgA_paL hG).1, hn, hl]⟩
theorem allA_iff {page : List UInt8} (hl : page.length = 256) : (mayP (lsA page (min (nB page) 5)) ∧ pgA (lsA page (min (nB page) 5)) = page) ↔ okA page := by
  constructor
  · rintro ⟨hm, e⟩
    have := (okA_pgA hm).1
    rw [e] at this; exact this
  · intro h
    rw [Nat.min_eq_left h.2.1, ← (pgA_paL h).1]
    exact (pgA_paL h).2
end Go.Proofs.YtfdpmffcdafmgaaDoor
