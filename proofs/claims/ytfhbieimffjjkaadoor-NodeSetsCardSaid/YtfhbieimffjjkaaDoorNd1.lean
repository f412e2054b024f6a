/- node, plainly: the page of references, the references of a page. -/
import Derived.Test.YtfhbieimffjjkaaDoorSpl
namespace Go.Proofs.YtfhbieimffjjkaaDoor
open Go Go.RowKit
set_option linter.unusedSimpArgs false
set_option linter.unusedVariables false
set_option maxRecDepth 4000
abbrev Rf := Int × UInt32 × List UInt8
def rcx (x : Rf) : List Value := rc x.1 x.2.1 x.2.2
def rwf (x : Rf) : Prop := x.2.2.length = 32 ∧ -9223372036854775808 ≤ x.1 ∧ x.1 ≤ 9223372036854775807
def lyx (x : Rf) : List UInt8 := layB x.1 x.2.1 x.2.2
def plx (x : Rf) : Prop := x.1 = 0 ∨ x.1 = 1
instance (x : Rf) : Decidable (plx x) := inferInstanceAs (Decidable (_ ∨ _))
def okL (l : List Rf) : Prop := (1 ≤ l.length ∧ l.length ≤ 6) ∧ ∀ x ∈ l, plx x
instance (l : List Rf) : Decidable (okL l) := inferInstanceAs (Decidable (_ ∧ _))
def catL (l : List Rf) : List UInt8 := (l.map lyx).flatten
def pgB (l : List Rf) : List UInt8 := UInt8.ofNat l.length :: (catL l ++ zb (255 - 37 * l.length))
def ndK (l : List Rf) : List UInt8 := if okL l then pgB l else []
def ndE (l : List Rf) : Int := if okL l then 0 else 1
def chunk (page : List UInt8) (i : Nat) : List UInt8 := (page.drop (1 + 37 * i)).take 37
def prs (b : List UInt8) : Rf := (pzP b, pzQ b, pzD b)
def lsN (page : List UInt8) (n : Nat) : List Rf := (List.range n).map fun i => prs (chunk page i)
def nB (page : List UInt8) : Nat := (page.getD 0 0).toNat
def okG (page : List UInt8) : Prop := page.length = 256 ∧ (1 ≤ nB page ∧ nB page ≤ 6) ∧ (∀ i, i < nB page → okP (chunk page i)) ∧ zer (page.drop (1 + 37 * nB page)) = true
instance (page : List UInt8) : Decidable (okG page) := inferInstanceAs (Decidable (_ ∧ _))
def alL (page : List UInt8) : List Rf := if okG page then lsN page (nB page) else []
def alE (page : List UInt8) : Int := if page.length = 256 then (if okG page then 0 else 9) else 1
def rz : Rf := (0, 0, zb 32)
theorem rz_wf : rwf rz := ⟨zb_length 32, by decide, by decide⟩
theorem rcx_length {x : Rf} (h : rwf x) : (rcx x).length = 34 := rc_length h.1 _ _
theorem rcx_cellv (x : Rf) : (rcx x).all cellv = true := rc_cellv _ _ _
theorem rcx_take {x : Rf} (h : rwf x) : List.take 34 (rcx x) = rcx x := rc_take h.1 _ _
theorem rcx_ovr {x y : Rf} (h : rwf x) (k : rwf y) : ovr (rcx x) 0 (rcx y) = rcx y := rc_ovr h.1 k.1 _ _ _ _
theorem lyx_length {x : Rf} (h : rwf x) : (lyx x).length = 37 := layB_length _ _ h.1
theorem flatG_length {α β : Type} (s : Nat) (f : α → List β) : ∀ (xs : List α), (∀ a ∈ xs, (f a).length = s) → (xs.map f).flatten.length = s * xs.length
  | [], _ => by simp
  | a :: r, h => by
    simp only [List.map_cons, List.flatten_cons, List.length_append, h a (by simp), List.length_cons]
    rw [flatG_length s f r (fun b hb => h b (by simp [hb])), Nat.mul_add]; omega
theorem flatG {α β : Type} (s : Nat) (f : α → List β) : ∀ (xs : List α), (∀ a ∈ xs, (f a).length = s) → ∀ (i : Nat) (hi : i < xs.length), ((xs.map f).flatten.drop (s * i)).take s = f xs[i]
  | [], _, i, hi => absurd hi (by simp)
  | a :: r, h, 0, _ => by
    simp only [List.map_cons, List.flatten_cons, Nat.mul_zero, List.drop_zero, List.getElem_cons_zero]
    have ha := h a (by simp)
    rw [List.take_append_of_le_length (by omega), List.take_of_length_le (by omega)]
  | a :: r, h, i + 1, hi => by
    simp only [List.map_cons, List.flatten_cons, List.getElem_cons_succ]
    have ha := h a (by simp)
    rw [show s * (i + 1) = (f a).length + s * i by rw [ha, Nat.mul_add]; omega, ← List.drop_drop, List.drop_left]
    exact flatG s f r (fun b hb => h b (by simp [hb])) i (by simpa using hi)
/-- One element over another one: the flat list. -/
theorem flatG_set {α β : Type} (s : Nat) (f : α → List β) : ∀ (xs : List α), (∀ a ∈ xs, (f a).length = s) → ∀ (i : Nat) (hi : i < xs.length) (y : α), ((xs.set i y).map f).flatten = (xs.map f).flatten.take (s * i) ++ f y ++ (xs.map f).flatten.drop (s * i + s)
  | [], _, i, hi, y => absurd hi (by simp)
  | a :: r, h, 0, _, y => by
    have ha := h a (by simp)
    simp only [List.set_cons_zero, List.map_cons, List.flatten_cons, Nat.mul_zero, Nat.zero_add, List.take_zero, List.nil_append]
    rw [← ha, List.drop_left]
  | a :: r, h, i + 1, hi, y => by
    have ha := h a (by simp)
    simp only [List.set_cons_succ, List.map_cons, List.flatten_cons]
    rw [flatG_set s f r (fun b hb => h b (by simp [hb])) i (by simpa using hi) y]
    rw [show s * (i + 1) = (f a).length + s * i by rw [ha, Nat.mul_add]; omega, List.take_length_add_append, show (f a).length + s * i + s = (f a).length + (s * i + s) by omega, List.drop_length_add_append]
    simp only [List.append_assoc]
theorem catL_length {l : List Rf} (h : ∀ x ∈ l, rwf x) : (catL l).length = 37 * l.length := flatG_length 37 lyx l (fun x hx => lyx_length (h x hx))
theorem pgB_length {l : List Rf} (h : ∀ x ∈ l, rwf x) (h6 : l.length ≤ 6) : (pgB l).length = 256 := by
  rw [pgB, List.length_cons, List.length_append, catL_length h, zb_length]; omega
theorem prs_wf (b : List UInt8) : rwf (prs b) := by
  refine ⟨pzD_length b, ?_⟩
  show -9223372036854775808 ≤ pzP b ∧ pzP b ≤ 9223372036854775807
  have := (b.getD 0 0).toNat_lt
  unfold pzP; split <;> omega
theorem prs_pl (b : List UInt8) : plx (prs b) := by
  show pzP b = 0 ∨ pzP b = 1
  unfold pzP; split
  · rename_i h; have := h.2; omega
  · exact .inl rfl
theorem lsN_length (page : List UInt8) (n : Nat) : (lsN page n).length = n := by rw [lsN, List.length_map, List.length_range]
theorem lsN_succ (page : List UInt8) (n : Nat) : lsN page (n + 1) = lsN page n ++ [prs (chunk page n)] := by rw [lsN, List.range_succ, List.map_append]; rfl
theorem lsN_wf (page : List UInt8) (n : Nat) : ∀ x ∈ lsN page n, rwf x := fun x hx => by
  obtain ⟨i, _, rfl⟩ := List.mem_map.1 hx; exact prs_wf _
theorem lsN_pl (page : List UInt8) (n : Nat) : ∀ x ∈ lsN page n, plx x := fun x hx => by
  obtain ⟨i, _, rfl⟩ := List.mem_map.1 hx; exact prs_pl _
theorem alL_wf (page : List UInt8) : ∀ x ∈ alL page, rwf x := by
  unfold alL; split
  · exact lsN_wf _ _
  · exact fun x hx => absurd hx (by simp)
theorem catL_lsN (page : List UInt8) (n : Nat) (h : ∀ i, i < n → okP (chunk page i)) : catL (lsN page n) = (page.drop 1).take (37 * n) := by
  induction n with
  | zero => simp [catL, lsN]
  | succ n ih =>
    have h1 : lyx (prs (chunk page n)) = chunk page n := lay_parse _ (h n (by omega))
    rw [lsN_succ, catL, List.map_append, List.flatten_append]
    rw [show ((lsN page n).map lyx).flatten = catL (lsN page n) from rfl, ih (fun i hi => h i (by omega))]
    simp only [List.map_cons, List.map_nil, List.flatten_cons, List.flatten_nil, List.append_nil, h1]
    rw [chunk]
    rw [show 37 * (n + 1) = 37 * n + 37 by omega, List.take_add, List.drop_drop, Nat.add_comm 1]
theorem zer_zbN (n : Nat) : zer (zb n) = true := by
  rw [zer, zb, List.all_eq_true]; intro x hx; rw [List.mem_replicate] at hx; rw [hx.2]; rfl
theorem zer_eqN (l : List UInt8) (h : zer l = true) : l = zb l.length := by
  rw [zer, List.all_eq_true] at h
  exact List.eq_replicate_iff.2 ⟨rfl, fun x hx => by simpa using h x hx⟩
theorem pgB_alL {page : List UInt8} (h : okG page) : alL page = lsN page (nB page) ∧ okL (alL page) ∧ pgB (alL page) = page := by
  have hl : alL page = lsN page (nB page) := by rw [alL, if_pos h]
  obtain ⟨h1, h2, h3, h4⟩ := h
  refine ⟨hl, ?_, ?_⟩
  · rw [hl]; exact ⟨by rw [lsN_length]; exact h2, lsN_pl _ _⟩
  · rw [hl, pgB, lsN_length, catL_lsN _ _ h3]
    have h5 := zer_eqN _ h4
    rw [List.length_drop, h1, show 256 - (1 + 37 * nB page) = 255 - 37 * nB page by omega] at h5
    rw [← h5]
    match page, h1 with
    | x :: r, h1 =>
      have hx : UInt8.ofNat (nB (x :: r)) = x := by show UInt8.ofNat x.toNat = x; exact UInt8.ofNat_toNat
      rw [hx, List.drop_succ_cons, List.drop_zero, Nat.add_comm 1, List.drop_succ_cons, List.take_append_drop]
theorem chunk_pgB {l : List Rf} (h : ∀ x ∈ l, rwf x) (i : Nat) (hi : i < l.length) : chunk (pgB l) i = lyx l[i] := by
  have hc := catL_length h
  have hm : 37 * i + 37 ≤ 37 * l.length := by omega
  rw [chunk, pgB, Nat.add_comm 1, List.drop_succ_cons, List.drop_append_of_le_length (by omega), List.take_append_of_le_length (by rw [List.length_drop]; omega)]
  exact flatG 37 lyx l (fun x hx => lyx_length (h x hx)) i hi
theorem nB_pgB {l : List Rf} (h6 : l.length ≤ 6) : nB (pgB l) = l.length := by
  show (UInt8.ofNat l.length).toNat = l.length
  rw [UInt8.toNat_ofNat']; omega
theorem okG_pgB {l : List Rf} (h : ∀ x ∈ l, rwf x) (ok : okL l) : okG (pgB l) ∧ alL (pgB l) = l := by
  have hn := nB_pgB ok.1.2
  have hc := catL_length h
  have hG : okG (pgB l) := by
    refine ⟨pgB_length h ok.1.2, by rw [hn]; exact ok.1, fun i hi => ?_, ?_⟩
    · rw [hn] at hi
      have hx := h _ (List.getElem_mem hi)
      have hp := ok.2 _ (List.getElem_mem hi)
      rw [chunk_pgB h i hi]
      have h1 := (parse_lay _ l[i].2.1 _ hx.1 hp).2.2.2
      unfold pzE at h1
      by_cases hk : okP (layB l[i].1 l[i].2.1 l[i].2.2)
      · exact hk
      · rw [if_neg hk] at h1; cases h1
    · rw [hn, pgB, Nat.add_comm 1, List.drop_succ_cons, List.drop_append_of_le_length (by omega), List.drop_of_length_le (by omega), List.nil_append]
      exact zer_zbN _
  refine ⟨hG, ?_⟩
  rw [(pgB_alL hG).1, hn]
  apply List.ext_getElem (lsN_length _ _)
  intro i h1 h2
  have hx := h _ (List.getElem_mem h2)
  have hp := ok.2 _ (List.getElem_mem h2)
  simp only [lsN, List.getElem_map, List.getElem_range]
  rw [chunk_pgB h i h2]
  obtain ⟨e1, e2, e3, _⟩ := parse_lay _ l[i].2.1 _ hx.1 hp
  show (pzP (layB l[i].1 l[i].2.1 l[i].2.2), pzQ (layB l[i].1 l[i].2.1 l[i].2.2), pzD (layB l[i].1 l[i].2.1 l[i].2.2)) = l[i]
  rw [e1, e2, e3]
theorem pgB_set {l : List Rf} (h : ∀ x ∈ l, rwf x) (i : Nat) (hi : i < l.length) (r : Rf) (hr : rwf r) : pgB (l.set i r) = (pgB l).take (1 + 37 * i) ++ lyx r ++ (pgB l).drop (1 + 37 * i + 37) := by
  have hc := catL_length h
  have h1 := flatG_set 37 lyx l (fun x hx => lyx_length (h x hx)) i hi r
  rw [pgB, List.length_set]
  show _ :: (((l.set i r).map lyx).flatten ++ _) = _
  rw [h1, pgB, Nat.add_comm 1, List.take_succ_cons, show 37 * i + 1 + 37 = 37 * i + 37 + 1 by omega, List.drop_succ_cons, List.take_append_of_le_length (by omega), List.drop_append_of_le_length (by omega)]
  simp only [catL, List.cons_append, List.append_assoc]
theorem okL_set {l : List Rf} (h : okL l) (i : Nat) (r : Rf) (hr : plx r) : okL (l.set i r) := by
  refine ⟨by rw [List.length_set]; exact h.1, fun x hx => ?_⟩
  rcases List.mem_or_eq_of_mem_set hx with h1 | rfl
  · exact h.2 x h1
  · exact hr
theorem set_wf {l : List Rf} (h : ∀ x ∈ l, rwf x) (i : Nat) (r : Rf) (hr : rwf r) : ∀ x ∈ l.set i r, rwf x := fun x hx => by
  rcases List.mem_or_eq_of_mem_set hx with h1 | rfl
  · exact h x h1
  · exact hr
theorem all_iff {page : List UInt8} (hl : page.length = 256) (h1 : 1 ≤ nB page) (hp : ∀ i, i < min (nB page) 6 → okP (chunk page i)) : pgB (lsN page (min (nB page) 6)) = page ↔ okG page := by
  constructor
  · intro e
    have hn : nB page = min (nB page) 6 := by
      have := nB_pgB (l := lsN page (min (nB page) 6)) (by rw [lsN_length]; omega)
      rw [e, lsN_length] at this; exact this
    have hok : okL (lsN page (min (nB page) 6)) := ⟨by rw [lsN_length]; omega, lsN_pl _ _⟩
    have := (okG_pgB (lsN_wf _ _) hok).1
    rw [e] at this; exact this
  · intro h
    rw [Nat.min_eq_left h.2.1.2, ← (pgB_alL h).1]
    exact (pgB_alL h).2.2
end Go.Proofs.YtfhbieimffjjkaaDoor
