/- dirent, plainly: where a name stands; a directory with an entry. -/
import Derived.Test.YtldfnfpinemedaaDi2
namespace Go.Proofs.Ytldfnfpinemedaa
open Go Go.RowKit
set_option linter.unusedSimpArgs false
set_option linter.unusedVariables false
set_option maxRecDepth 4000
abbrev ltN (a b : List UInt8) : Bool := Op.bytesLess a b
theorem ltN_irr (a : List UInt8) : ltN a a = false := by
  have := less_tri a a
  simp only [beq_self_eq_true, Bool.or_true, Bool.not_true] at this
  exact this.symm
theorem ltN_asym {a b : List UInt8} (h : ltN a b = true) : ltN b a = false := by
  have := less_tri a b
  unfold ltN at *
  rw [h] at this
  cases hb : Op.bytesLess b a with
  | false => rfl
  | true => rw [hb] at this; simp at this
theorem ltN_ne {a b : List UInt8} (h : ltN a b = true) : a ≠ b := fun e => by rw [e, ltN_irr] at h; cases h
theorem ltN_tot {a b : List UInt8} (h : ltN a b = false) (hn : a ≠ b) : ltN b a = true := by
  have := less_tri a b
  unfold ltN at *
  rw [h] at this
  cases hb : Op.bytesLess b a with
  | true => rfl
  | false =>
    rw [hb] at this
    have hbe : (b == a) = false := by rw [beq_eq_false_iff_ne]; exact fun e => hn e.symm
    rw [hbe] at this; simp at this
theorem ltN_trans : ∀ {a b c : List UInt8}, ltN a b = true → ltN b c = true → ltN a c = true
  | a, b, [], _, h2 => by rw [ltN, less_nil] at h2; cases h2
  | a, [], c :: z, h1, _ => by rw [ltN, less_nil] at h1; cases h1
  | [], b :: y, c :: z, _, _ => by simp [ltN, Op.bytesLess]
  | a :: x, b :: y, c :: z, h1, h2 => by
    simp only [ltN, Op.bytesLess, Bool.or_eq_true, decide_eq_true_eq, Bool.and_eq_true, beq_iff_eq] at h1 h2 ⊢
    rcases h1 with h1 | ⟨rfl, h1⟩
    · rcases h2 with h2 | ⟨rfl, h2⟩
      · exact .inl (UInt8.lt_trans h1 h2)
      · exact .inl h1
    · rcases h2 with h2 | ⟨rfl, h2⟩
      · exact .inl h2
      · exact .inr ⟨rfl, ltN_trans h1 h2⟩
/-- Names that rise. -/
def srtE (l : List En) : Prop := l.Pairwise fun a b => ltN a.1 b.1 = true
theorem mayE_srt {l : List En} (h : mayE l) : srtE l := by
  have h1 := h
  clear h
  unfold srtE
  rw [List.pairwise_iff_getElem]
  intro i j hi hj hij
  obtain ⟨k, rfl⟩ : ∃ k, j = i + 1 + k := ⟨j - (i + 1), by omega⟩
  clear hij
  have one : ∀ m, (hm : m + 1 < l.length) → ltN (l[m]'(by omega)).1 l[m + 1].1 = true := fun m hm => by
    have := (h1 (m + 1) hm).2
    rw [prvE, if_neg (by omega), Nat.add_sub_cancel] at this
    rw [List.getD_eq_getElem?_getD, List.getElem?_eq_getElem (by omega : m < l.length), List.getD_eq_getElem?_getD, List.getElem?_eq_getElem hm] at this
    exact this
  induction k with
  | zero => exact one i (by omega)
  | succ k ih => exact ltN_trans (ih (by omega) one) (one (i + 1 + k) (by omega))
theorem srt_mayE {l : List En} (h : srtE l) (h1 : ∀ x ∈ l, oneE x) : mayE l := by
  intro j hj
  have hg : l.getD j ez = l[j] := by rw [List.getD_eq_getElem?_getD, List.getElem?_eq_getElem hj]; rfl
  have ho := h1 _ (List.getElem_mem hj)
  unfold stepE
  rw [hg]
  refine ⟨ho, ?_⟩
  unfold prvE
  split
  · have h0 := ho.1
    cases hn : l[j].1 with
    | nil => exact absurd hn h0
    | cons a r => rfl
  · have hj2 : j - 1 < l.length := by omega
    rw [List.getD_eq_getElem?_getD, List.getElem?_eq_getElem hj2]
    exact (List.pairwise_iff_getElem.1 h) (j - 1) j hj2 hj (by omega)
theorem mem_takeG {α : Type} {l : List α} {i : Nat} {x : α} (h : x ∈ l.take i) : ∃ j, ∃ hj : j < l.length, j < i ∧ l[j] = x := by
  obtain ⟨j, hj, e⟩ := List.getElem_of_mem h
  rw [List.length_take] at hj
  rw [List.getElem_take] at e
  exact ⟨j, by omega, by omega, e⟩
theorem mem_dropG {α : Type} {l : List α} {i : Nat} {x : α} (h : x ∈ l.drop i) : ∃ j, ∃ hj : j < l.length, i ≤ j ∧ l[j] = x := by
  obtain ⟨j, hj, e⟩ := List.getElem_of_mem h
  rw [List.length_drop] at hj
  rw [List.getElem_drop] at e
  exact ⟨i + j, by omega, by omega, e⟩
theorem lt_take {l : List En} (hs : srtE l) {n : List UInt8} {h : Nat} (hh : h < l.length) (k : ltN l[h].1 n = true) : ∀ x ∈ l.take (h + 1), ltN x.1 n = true := by
  intro x hx
  obtain ⟨j, hj, hjh, rfl⟩ := mem_takeG hx
  rcases Nat.lt_or_ge j h with h1 | h1
  · exact ltN_trans ((List.pairwise_iff_getElem.1 hs) j h hj hh h1) k
  · obtain rfl : j = h := by omega
    exact k
theorem ge_drop {l : List En} (hs : srtE l) {n : List UInt8} {h : Nat} (hh : h < l.length) (k : ltN l[h].1 n = false) : ∀ x ∈ l.drop h, ltN x.1 n = false := by
  intro x hx
  obtain ⟨j, hj, hjh, rfl⟩ := mem_dropG hx
  rcases Nat.lt_or_ge h j with h1 | h1
  · cases hc : ltN l[j].1 n with
    | false => rfl
    | true =>
      have := ltN_trans ((List.pairwise_iff_getElem.1 hs) h j hh hj h1) hc
      rw [k] at this; cases this
  · obtain rfl : j = h := by omega
    exact k
/-- Where a name stands, or would stand; whether it is there. -/
def plE (l : List En) (n : List UInt8) : Nat := (l.filter fun x => ltN x.1 n).length
def hasE (l : List En) (n : List UInt8) : Bool := l.any fun x => x.1 == n
theorem plE_le (l : List En) (n : List UInt8) : plE l n ≤ l.length := List.length_filter_le _ _
theorem pl_eq {l : List En} {n : List UInt8} {i : Nat} (hi : i ≤ l.length) (hl : ∀ x ∈ l.take i, ltN x.1 n = true) (hh : ∀ x ∈ l.drop i, ltN x.1 n = false) : plE l n = i := by
  unfold plE
  have e : l = l.take i ++ l.drop i := (List.take_append_drop i l).symm
  rw [e, List.filter_append, List.filter_eq_self.2 hl, List.filter_eq_nil_iff.2 (fun x hx => by rw [hh x hx]; decide), List.append_nil, List.length_take]
  omega
theorem hasE_iff {l : List En} {n : List UInt8} : hasE l n = true ↔ ∃ x ∈ l, x.1 = n := by
  unfold hasE; rw [List.any_eq_true]; simp
theorem has_at {l : List En} (hs : srtE l) {n : List UInt8} {i : Nat} (hl : ∀ x ∈ l.take i, ltN x.1 n = true) (hh : ∀ x ∈ l.drop i, ltN x.1 n = false) : hasE l n = true ↔ ∃ hi : i < l.length, l[i].1 = n := by
  rw [hasE_iff]
  constructor
  · rintro ⟨x, hx, e⟩
    obtain ⟨j, hj, rfl⟩ := List.getElem_of_mem hx
    have hij : i ≤ j := by
      rcases Nat.lt_or_ge j i with h | h
      · have := hl l[j] (by rw [List.mem_take_iff_getElem]; exact ⟨j, by omega, rfl⟩)
        rw [e, ltN_irr] at this; cases this
      · exact h
    rcases Nat.lt_or_ge i j with h | h
    · have h1 := (List.pairwise_iff_getElem.1 hs) i j (by omega) hj h
      have h2 := hh (l[i]'(by omega)) (by rw [List.mem_drop_iff_getElem]; exact ⟨0, by omega, by simp⟩)
      rw [e, h2] at h1; cases h1
    · obtain rfl : i = j := by omega
      exact ⟨hj, e⟩
  · rintro ⟨hi, e⟩
    exact ⟨_, List.getElem_mem hi, e⟩
theorem low_pl : ∀ {l : List En} (hs : srtE l) (n : List UInt8), (∀ x ∈ l.take (plE l n), ltN x.1 n = true) ∧ (∀ x ∈ l.drop (plE l n), ltN x.1 n = false)
  | [], _, n => ⟨fun x hx => by simp at hx, fun x hx => by simp at hx⟩
  | a :: r, hs, n => by
    obtain ⟨h1, h2⟩ := List.pairwise_cons.1 hs
    cases hc : ltN a.1 n with
    | true =>
      obtain ⟨i1, i2⟩ := low_pl (l := r) h2 n
      have hp : plE (a :: r) n = plE r n + 1 := by unfold plE; rw [List.filter_cons_of_pos (by simpa using hc)]; rfl
      rw [hp, List.take_succ_cons, List.drop_succ_cons]
      refine ⟨fun x hx => ?_, i2⟩
      rcases List.mem_cons.1 hx with rfl | hx
      · exact hc
      · exact i1 x hx
    | false =>
      have hr : ∀ x ∈ r, ltN x.1 n = false := fun x hx => by
        cases hk : ltN x.1 n with
        | false => rfl
        | true => have := ltN_trans (h1 x hx) hk; rw [hc] at this; cases this
      have hp : plE (a :: r) n = 0 := by
        unfold plE
        rw [List.filter_cons_of_neg (by rw [hc]; decide), List.filter_eq_nil_iff.2 (fun x hx => by rw [hr x hx]; decide)]
        rfl
      rw [hp, List.take_zero, List.drop_zero]
      refine ⟨fun x hx => (by cases hx), fun x hx => ?_⟩
      rcases List.mem_cons.1 hx with rfl | hx
      · exact hc
      · exact hr x hx
/-- A directory with an entry whose name is not there. -/
def insL (l : List En) (e : En) : List En := l.take (plE l e.1) ++ e :: l.drop (plE l e.1)
theorem ins_len (l : List En) (e : En) : (insL l e).length = l.length + 1 := by
  unfold insL
  have := plE_le l e.1
  rw [List.length_append, List.length_cons, List.length_take, List.length_drop]; omega
theorem mem_insL {l : List En} {e x : En} : x ∈ insL l e ↔ x = e ∨ x ∈ l := by
  unfold insL
  have h : x ∈ l ↔ x ∈ l.take (plE l e.1) ∨ x ∈ l.drop (plE l e.1) := by rw [← List.mem_append, List.take_append_drop]
  rw [List.mem_append, List.mem_cons, h]
  constructor
  · rintro (h | h | h)
    · exact .inr (.inl h)
    · exact .inl h
    · exact .inr (.inr h)
  · rintro (h | h | h)
    · exact .inr (.inl h)
    · exact .inl h
    · exact .inr (.inr h)
theorem ins_srtE {l : List En} (hs : srtE l) {e : En} (hn : hasE l e.1 = false) : srtE (insL l e) := by
  obtain ⟨h1, h2⟩ := low_pl hs e.1
  have hne : ∀ x ∈ l, x.1 ≠ e.1 := fun x hx k => by
    have := hasE_iff.2 ⟨x, hx, k⟩
    rw [hn] at this; cases this
  unfold srtE insL
  rw [List.pairwise_append]
  refine ⟨List.Pairwise.sublist (List.take_sublist _ _) hs, ?_, ?_⟩
  · rw [List.pairwise_cons]
    exact ⟨fun x hx => ltN_tot (h2 x hx) (hne x (List.mem_of_mem_drop hx)), List.Pairwise.sublist (List.drop_sublist _ _) hs⟩
  · intro a ha b hb
    rcases List.mem_cons.1 hb with rfl | hb
    · exact h1 a ha
    · exact ltN_trans (h1 a ha) (ltN_tot (h2 b hb) (hne b (List.mem_of_mem_drop hb)))
theorem ins_mayE {l : List En} (h : mayE l) {e : En} (he : oneE e) (hn : hasE l e.1 = false) : mayE (insL l e) := by
  refine srt_mayE (ins_srtE (mayE_srt h) hn) fun x hx => ?_
  rcases mem_insL.1 hx with rfl | hx
  · exact he
  · exact mayE_one h x hx
theorem ins_take (l : List En) (e : En) : (insL l e).take (plE l e.1) = l.take (plE l e.1) := by
  have := plE_le l e.1
  unfold insL
  rw [List.take_append_of_le_length (by rw [List.length_take]; omega), List.take_take, Nat.min_self]
theorem ins_drop (l : List En) (e : En) : (insL l e).drop (plE l e.1) = e :: l.drop (plE l e.1) := by
  have := plE_le l e.1
  unfold insL
  rw [List.drop_append_of_le_length (by rw [List.length_take]; omega), List.drop_of_length_le (by rw [List.length_take]; omega), List.nil_append]
theorem ins_pl {l : List En} (hs : srtE l) (e : En) : plE (insL l e) e.1 = plE l e.1 := by
  obtain ⟨h1, h2⟩ := low_pl hs e.1
  refine pl_eq (by rw [ins_len]; have := plE_le l e.1; omega) ?_ ?_
  · rw [ins_take]; exact h1
  · rw [ins_drop]
    intro x hx
    rcases List.mem_cons.1 hx with rfl | hx
    · exact ltN_irr _
    · exact h2 x hx
theorem ins_has (l : List En) (e : En) : hasE (insL l e) e.1 = true := hasE_iff.2 ⟨e, mem_insL.2 (.inl rfl), rfl⟩
theorem ins_at {l : List En} {e : En} (h : plE l e.1 < (insL l e).length) : (insL l e)[plE l e.1] = e := by
  have h1 := ins_drop l e
  rw [List.drop_eq_getElem_cons h] at h1
  exact (List.cons.inj h1).1
theorem ins_back (l : List En) (e : En) : (insL l e).take (plE l e.1) ++ (insL l e).drop (plE l e.1 + 1) = l := by
  rw [ins_take, ← List.drop_drop, ins_drop, List.drop_succ_cons, List.drop_zero, List.take_append_drop]
theorem ins_only {l : List En} {e x : En} (hn : hasE l e.1 = false) (hx : x ∈ insL l e) (h : x.1 = e.1) : x = e := by
  rcases mem_insL.1 hx with hx | hx
  · exact hx
  · have := hasE_iff.2 ⟨x, hx, h⟩
    rw [hn] at this; cases this
/-- Where a name stands first. -/
def noneE (l : List En) (n : List UInt8) (i : Nat) : Prop := ∀ y ∈ l.take i, y.1 ≠ n
theorem none_hasE {l : List En} {n : List UInt8} (h : noneE l n l.length) : hasE l n = false := by
  rw [Bool.eq_false_iff, ne_eq, hasE_iff]
  rintro ⟨x, hx, e⟩
  exact h x (by rw [List.take_length]; exact hx) e
theorem none_next {l : List En} {n : List UInt8} {i : Nat} (hi : i < l.length) (hb : noneE l n i) (h : l[i].1 ≠ n) : noneE l n (i + 1) := by
  intro y hy
  rw [List.take_succ_eq_append_getElem hi, List.mem_append, List.mem_singleton] at hy
  rcases hy with hy | rfl
  · exact hb y hy
  · exact h
def inEE (l : List En) (e : En) : Int := if mayE l ∧ oneE e then (if hasE l e.1 = true then 7 else 0) else 1
def inEL (l : List En) (e : En) : List En := if inEE l e = 0 then insL l e else []
end Go.Proofs.Ytldfnfpinemedaa
