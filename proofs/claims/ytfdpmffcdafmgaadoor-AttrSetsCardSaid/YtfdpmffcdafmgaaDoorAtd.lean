/- attr, plainly: a name's value, pairs with one that is set, without one. -/
import Derived.Test.YtfdpmffcdafmgaaDoorAt2
namespace Go.Proofs.YtfdpmffcdafmgaaDoor
open Go Go.RowKit
set_option linter.unusedSimpArgs false
set_option linter.unusedVariables false
set_option maxRecDepth 4000
abbrev ltN (a b : List UInt8) : Bool := Op.bytesLess a b
theorem ltN_irr (a : List UInt8) : ltN a a = false := by
  have := less_tri a a
  simp only [beq_self_eq_true, Bool.or_true, Bool.not_true] at this
  exact this.symm
theorem ltN_asym {a b : List UInt8} (h : ltN a b = true) : ltN b a = false := by
  have := less_tri a b
  unfold ltN at *
  rw [h] at this
  cases hb : Op.bytesLess b a with
  | false => rfl
  | true => rw [hb] at this; simp at this
theorem ltN_ne {a b : List UInt8} (h : ltN a b = true) : a ≠ b := fun e => by rw [e, ltN_irr] at h; cases h
theorem ltN_tot {a b : List UInt8} (h : ltN a b = false) (hn : a ≠ b) : ltN b a = true := by
  have := less_tri a b
  unfold ltN at *
  rw [h] at this
  cases hb : Op.bytesLess b a with
  | true => rfl
  | false =>
    rw [hb] at this
    have hbe : (b == a) = false := by rw [beq_eq_false_iff_ne]; exact fun e => hn e.symm
    rw [hbe] at this; simp at this
theorem ltN_trans : ∀ {a b c : List UInt8}, ltN a b = true → ltN b c = true → ltN a c = true
  | a, b, [], _, h2 => by rw [ltN, less_nil] at h2; cases h2
  | a, [], c :: z, h1, _ => by rw [ltN, less_nil] at h1; cases h1
  | [], b :: y, c :: z, _, _ => by simp [ltN, Op.bytesLess]
  | a :: x, b :: y, c :: z, h1, h2 => by
    simp only [ltN, Op.bytesLess, Bool.or_eq_true, decide_eq_true_eq, Bool.and_eq_true, beq_iff_eq] at h1 h2 ⊢
    rcases h1 with h1 | ⟨rfl, h1⟩
    · rcases h2 with h2 | ⟨rfl, h2⟩
      · exact .inl (UInt8.lt_trans h1 h2)
      · exact .inl h1
    · rcases h2 with h2 | ⟨rfl, h2⟩
      · exact .inl h2
      · exact .inr ⟨rfl, ltN_trans h1 h2⟩
/-- Names that rise. -/
def srt (l : List Pr) : Prop := l.Pairwise fun a b => ltN a.1 b.1 = true
theorem may_srt {l : List Pr} (h : mayP l) : srt l := by
  have h1 := h.1
  clear h
  unfold srt
  rw [List.pairwise_iff_getElem]
  intro i j hi hj hij
  obtain ⟨k, rfl⟩ : ∃ k, j = i + 1 + k := ⟨j - (i + 1), by omega⟩
  clear hij
  have one : ∀ m, (hm : m + 1 < l.length) → ltN (l[m]'(by omega)).1 l[m + 1].1 = true := fun m hm => by
    have := (h1 (m + 1) hm).2
    rw [prv, if_neg (by omega), Nat.add_sub_cancel] at this
    rw [List.getD_eq_getElem?_getD, List.getElem?_eq_getElem (by omega : m < l.length), List.getD_eq_getElem?_getD, List.getElem?_eq_getElem hm] at this
    exact this
  induction k with
  | zero => exact one i (by omega)
  | succ k ih => exact ltN_trans (ih (by omega) one) (one (i + 1 + k) (by omega))
theorem srt_may {l : List Pr} (h : srt l) (h1 : ∀ x ∈ l, oneP x) (h5 : l.length ≤ 5) : mayP l := by
  refine ⟨fun j hj => ?_, h5⟩
  have hg : l.getD j dz = l[j] := by rw [List.getD_eq_getElem?_getD, List.getElem?_eq_getElem hj]; rfl
  have ho := h1 _ (List.getElem_mem hj)
  unfold stepP
  rw [hg]
  refine ⟨ho, ?_⟩
  unfold prv
  split
  · have h0 := ho.1
    cases hn : l[j].1 with
    | nil => exact absurd hn h0
    | cons a r => rfl
  · have hj2 : j - 1 < l.length := by omega
    rw [List.getD_eq_getElem?_getD, List.getElem?_eq_getElem hj2]
    exact (List.pairwise_iff_getElem.1 h) (j - 1) j hj2 hj (by omega)
/-- Where a name stands first. -/
def ixP (l : List Pr) (n : List UInt8) : Nat := l.findIdx fun x => x.1 == n
def hasP (l : List Pr) (n : List UInt8) : Bool := l.any fun x => x.1 == n
def getV (l : List Pr) (n : List UInt8) : List UInt8 := ((l.find? fun x => x.1 == n).getD dz).2
def getE (l : List Pr) (n : List UInt8) : Int := if hasP l n = true then 0 else 6
def wo (l : List Pr) (n : List UInt8) : List Pr := l.filter fun x => !(x.1 == n)
def lowP (r : List Pr) (p : Pr) : List Pr := r.filter fun x => ltN x.1 p.1
def highP (r : List Pr) (p : Pr) : List Pr := r.filter fun x => !(ltN x.1 p.1)
def insP (r : List Pr) (p : Pr) : List Pr := lowP r p ++ p :: highP r p
def setE (l : List Pr) (p : Pr) : Int := if mayP l ∧ oneP p then (if 5 ≤ (wo l p.1).length then 8 else 0) else 1
def setL (l : List Pr) (p : Pr) : List Pr := if setE l p = 0 then insP (wo l p.1) p else []
def remE (l : List Pr) (n : List UInt8) : Int := if mayP l then (if hasP l n = true then 0 else 6) else 1
def remL (l : List Pr) (n : List UInt8) : List Pr := if remE l n = 0 then wo l n else []
theorem mem_wo {l : List Pr} {n : List UInt8} {x : Pr} : x ∈ wo l n ↔ x ∈ l ∧ x.1 ≠ n := by
  unfold wo; rw [List.mem_filter]; simp
theorem wo_len (l : List Pr) (n : List UInt8) : (wo l n).length ≤ l.length := List.length_filter_le _ _
theorem wo_srt {l : List Pr} (h : srt l) (n : List UInt8) : srt (wo l n) := List.Pairwise.filter _ h
theorem hasP_iff {l : List Pr} {n : List UInt8} : hasP l n = true ↔ ∃ x ∈ l, x.1 = n := by
  unfold hasP; rw [List.any_eq_true]; simp
theorem wo_eq {l : List Pr} {n : List UInt8} : (wo l n).length = l.length ↔ hasP l n = false := by
  rw [Bool.eq_false_iff, ne_eq, hasP_iff, wo, List.length_filter_eq_length_iff]
  constructor
  · rintro h ⟨x, hx, e⟩
    have := h x hx
    rw [e, beq_self_eq_true] at this; cases this
  · intro h x hx
    have : (x.1 == n) = false := by rw [beq_eq_false_iff_ne]; exact fun e => h ⟨x, hx, e⟩
    rw [this]; rfl
theorem ins_len (r : List Pr) (p : Pr) : (insP r p).length = r.length + 1 := by
  unfold insP lowP highP
  rw [List.length_append, List.length_cons]
  have := List.length_eq_countP_add_countP (p := fun x : Pr => ltN x.1 p.1) (l := r)
  rw [List.countP_eq_length_filter, List.countP_eq_length_filter] at this
  have h2 : (r.filter fun a => decide ¬ (ltN a.1 p.1 = true)) = r.filter fun a => !(ltN a.1 p.1) := by
    apply List.filter_congr; intro x _; cases ltN x.1 p.1 <;> rfl
  rw [h2] at this
  omega
theorem mem_ins {r : List Pr} {p x : Pr} : x ∈ insP r p ↔ x = p ∨ x ∈ r := by
  unfold insP lowP highP
  rw [List.mem_append, List.mem_cons, List.mem_filter, List.mem_filter]
  cases ltN x.1 p.1 <;> simp [or_comm]
theorem ins_srt {r : List Pr} (h : srt r) (p : Pr) (hn : ∀ x ∈ r, x.1 ≠ p.1) : srt (insP r p) := by
  unfold srt insP
  rw [List.pairwise_append]
  refine ⟨List.Pairwise.filter _ h, ?_, ?_⟩
  · rw [List.pairwise_cons]
    refine ⟨fun x hx => ?_, List.Pairwise.filter _ h⟩
    unfold highP at hx
    rw [List.mem_filter] at hx
    exact ltN_tot (by simpa using hx.2) (hn x hx.1)
  · intro a ha b hb
    unfold lowP at ha
    rw [List.mem_filter] at ha
    rw [List.mem_cons] at hb
    rcases hb with rfl | hb
    · exact ha.2
    · unfold highP at hb
      rw [List.mem_filter] at hb
      exact ltN_trans ha.2 (ltN_tot (by simpa using hb.2) (hn b hb.1))
/-- A place that parts the lower from the higher ones is the place. -/
theorem ins_at {r : List Pr} {p : Pr} (j : Nat) (hl : ∀ x ∈ r.take j, ltN x.1 p.1 = true) (hh : ∀ x ∈ r.drop j, ltN x.1 p.1 = false) : insP r p = r.take j ++ p :: r.drop j := by
  have e : r = r.take j ++ r.drop j := (List.take_append_drop j r).symm
  unfold insP lowP highP
  rw [e, List.filter_append, List.filter_append, ← e]
  rw [List.filter_eq_self.2 hl, List.filter_eq_nil_iff.2 (fun x hx => by rw [hh x hx]; decide), List.append_nil]
  rw [List.filter_eq_nil_iff.2 (fun x hx => by rw [hl x hx]; decide), List.filter_eq_self.2 (fun x hx => by rw [hh x hx]; rfl), List.nil_append]
theorem set_may {l : List Pr} {p : Pr} (h : setE l p = 0) : mayP l ∧ oneP p ∧ (wo l p.1).length < 5 ∧ setL l p = insP (wo l p.1) p ∧ mayP (setL l p) := by
  have hL : setL l p = insP (wo l p.1) p := by rw [setL, if_pos h]
  unfold setE at h
  split at h
  · rename_i hk
    split at h
    · cases h
    · rename_i h5
      refine ⟨hk.1, hk.2, by omega, hL, ?_⟩
      rw [hL]
      refine srt_may (ins_srt (wo_srt (may_srt hk.1) _) p fun x hx => (mem_wo.1 hx).2) (fun x hx => ?_) (by rw [ins_len]; omega)
      rcases mem_ins.1 hx with rfl | hx
      · exact hk.2
      · exact may_one hk.1 _ (mem_wo.1 hx).1
  · cases h
theorem set_full {l : List Pr} {p : Pr} (h : setE l p ≠ 0) : setL l p = [] ∧ (setE l p = 1 ∨ setE l p = 8 ∧ l.length = 5) := by
  refine ⟨by rw [setL, if_neg h], ?_⟩
  unfold setE at h ⊢
  split
  · rename_i hk
    rw [if_pos hk] at h
    split
    · rename_i h5
      have := wo_len l p.1
      have := hk.1.2
      exact .inr ⟨rfl, by omega⟩
    · rename_i h5; rw [if_neg h5] at h; exact absurd rfl h
  · exact .inl rfl
/-- A name that stands at a place of a rising list has that one's value. -/
theorem getV_at {l : List Pr} (h : srt l) {x : Pr} (hx : x ∈ l) : getV l x.1 = x.2 ∧ hasP l x.1 = true := by
  refine ⟨?_, hasP_iff.2 ⟨x, hx, rfl⟩⟩
  unfold getV
  induction l with
  | nil => cases hx
  | cons a r ih =>
    rw [List.find?_cons]
    rw [List.mem_cons] at hx
    obtain ⟨h1, h2⟩ := List.pairwise_cons.1 h
    by_cases e : a.1 = x.1
    · rw [e, beq_self_eq_true]
      rcases hx with rfl | hx
      · rfl
      · exact absurd e (ltN_ne (h1 x hx))
    · have : (a.1 == x.1) = false := by rw [beq_eq_false_iff_ne]; exact e
      rw [this]
      rcases hx with rfl | hx
      · exact absurd rfl e
      · exact ih h2 hx
theorem getV_none {l : List Pr} {n : List UInt8} (h : hasP l n = false) : getV l n = [] := by
  have : l.find? (fun x => x.1 == n) = none := by
    rw [List.find?_eq_none]
    intro x hx hb
    have := hasP_iff.2 ⟨x, hx, by simpa using hb⟩
    rw [h] at this; cases this
  rw [getV, this]; rfl
theorem set_got {l : List Pr} {p : Pr} (h : setE l p = 0) : getV (setL l p) p.1 = p.2 ∧ getE (setL l p) p.1 = 0 := by
  obtain ⟨h1, h2, h3, h4, h5⟩ := set_may h
  have hx : p ∈ setL l p := by rw [h4]; exact mem_ins.2 (.inl rfl)
  obtain ⟨a, b⟩ := getV_at (may_srt h5) hx
  exact ⟨a, by rw [getE, if_pos b]⟩
theorem set_other' {l : List Pr} {p : Pr} (h : setE l p = 0) {n : List UInt8} (hn : n ≠ p.1) : getV (setL l p) n = getV l n ∧ getE (setL l p) n = getE l n := by
  obtain ⟨h1, h2, h3, h4, h5⟩ := set_may h
  have hiff : hasP (setL l p) n = true ↔ hasP l n = true := by
    rw [hasP_iff, hasP_iff, h4]
    constructor
    · rintro ⟨x, hx, rfl⟩
      rcases mem_ins.1 hx with rfl | hx
      · exact absurd rfl hn
      · exact ⟨x, (mem_wo.1 hx).1, rfl⟩
    · rintro ⟨x, hx, rfl⟩
      exact ⟨x, mem_ins.2 (.inr (mem_wo.2 ⟨hx, hn⟩)), rfl⟩
  cases hb : hasP l n with
  | true =>
    have hb2 := hiff.2 hb
    obtain ⟨x, hx, rfl⟩ := hasP_iff.1 hb
    have hx2 : x ∈ setL l p := by rw [h4]; exact mem_ins.2 (.inr (mem_wo.2 ⟨hx, hn⟩))
    refine ⟨by rw [(getV_at (may_srt h5) hx2).1, (getV_at (may_srt h1) hx).1], by rw [getE, getE, if_pos hb, if_pos hb2]⟩
  | false =>
    have hb2 : hasP (setL l p) n = false := by
      cases hc : hasP (setL l p) n with
      | false => rfl
      | true => rw [hiff.1 hc] at hb; cases hb
    refine ⟨by rw [getV_none hb, getV_none hb2], ?_⟩
    rw [getE, getE, hb, hb2]
theorem set_removed {l : List Pr} {p : Pr} (h : setE l p = 0) : remE (setL l p) p.1 = 0 ∧ getE (remL (setL l p) p.1) p.1 = 6 := by
  obtain ⟨h1, h2, h3, h4, h5⟩ := set_may h
  have hx : p ∈ setL l p := by rw [h4]; exact mem_ins.2 (.inl rfl)
  have hh : hasP (setL l p) p.1 = true := hasP_iff.2 ⟨p, hx, rfl⟩
  have hE : remE (setL l p) p.1 = 0 := by rw [remE, if_pos h5, if_pos hh]
  refine ⟨hE, ?_⟩
  rw [remL, if_pos hE, getE, if_neg]
  rw [hasP_iff]
  rintro ⟨x, hx, e⟩
  exact (mem_wo.1 hx).2 e
theorem set_one5 {l : List Pr} {p : Pr} : ∀ x ∈ setL l p, oneP x := by
  by_cases h : setE l p = 0
  · exact may_one (set_may h).2.2.2.2
  · rw [(set_full h).1]; exact fun x hx => absurd hx (by simp)
theorem rem_one5 {l : List Pr} {n : List UInt8} : ∀ x ∈ remL l n, oneP x := by
  unfold remL
  split
  · rename_i h
    unfold remE at h
    split at h
    · rename_i hk; exact fun x hx => may_one hk _ (mem_wo.1 hx).1
    · cases h
  · exact fun x hx => absurd hx (by simp)
end Go.Proofs.YtfdpmffcdafmgaaDoor
