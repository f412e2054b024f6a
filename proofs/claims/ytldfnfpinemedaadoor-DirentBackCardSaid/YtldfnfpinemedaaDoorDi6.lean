/- dirent: what a reader reads of entries. -/
import Derived.Test.YtldfnfpinemedaaDoorDi5
import Derived.Test.YtldfnfpinemedaaDoorPk4
namespace Go.Proofs.YtldfnfpinemedaaDoor
open Go Go.RowKit
--hide
set_option linter.unusedSimpArgs false
set_option linter.unusedVariables false
set_option maxRecDepth 4000
/-- An owned slice of elements of s cells. -/
def OSn (s b : Nat) (H : AH) (v : Value) (n : Nat) (cells : List Value) : Prop := (v = .slice none 0 0 ∧ n = 0 ∧ cells = []) ∨ ∃ g, v = .slice (some ⟨g, 0, none⟩) n s ∧ H[g]? = some (.own cells) ∧ b ≤ g
theorem OSn.sln {s b : Nat} {H : AH} {v : Value} {n : Nat} {cells : List Value} (h : OSn s b H v n cells) : SLn H v n cells := by
  rcases h with ⟨h, h0, h1⟩ | ⟨g, h, h1, h2⟩
  · exact .inl ⟨h, h1, h0⟩
  · exact .inr ⟨g, 0, s, h, .inr ⟨cells, AH.cells_own h1, by omega, by rw [List.drop_zero, List.take_length]⟩⟩
theorem OSn.none {s b : Nat} (H : AH) : OSn s b H (.slice none 0 0) 0 [] := .inl ⟨rfl, rfl, rfl⟩
theorem OSn.mono {s b : Nat} {H H' : AH} {v : Value} {n : Nat} {cells : List Value} (h : OSn s b H v n cells) (e : Ext H H') : OSn s b H' v n cells := by
  rcases h with h | ⟨g, h1, h2, h3⟩
  · exact .inl h
  · exact .inr ⟨g, h1, e _ _ h2, h3⟩
theorem OSn.butn {s b q : Nat} {H H' : AH} {v : Value} {n : Nat} {cells : List Value} (h : OSn s b H v n cells) (hq : ∀ o m e, v ≠ .slice (some ⟨q, o, .none⟩) m e) (e : But q H H') : OSn s b H' v n cells := by
  rcases h with h | ⟨g, h1, h2, h3⟩
  · exact .inl h
  · exact .inr ⟨g, h1, e _ _ (fun k => hq _ _ _ (by rw [h1, k])) h2, h3⟩
theorem OSn.low {s b c : Nat} {H : AH} {v : Value} {n : Nat} {cells : List Value} (h : OSn s b H v n cells) (hc : c ≤ b) : OSn s c H v n cells := by
  rcases h with h | ⟨g, h1, h2, h3⟩
  · exact .inl h
  · exact .inr ⟨g, h1, h2, by omega⟩
theorem OSn.app1 {P : Program} {H : AH} {t tx b s bytes n : Nat} {v : Value} {cells c : List Value} (he : elemT P t = some (s, bytes)) (ht : sliceT P tx = true) (h : OSn s b H v n cells) (hc : cells.length = n * s) (hcl : c.length = s) (hv : c.all cellv = true) (hs : 0 < s) (hb : (n + 1) * bytes ≤ 140737488355328) (hn : n + 1 ≤ 9223372036854775807) (hbl : b ≤ H.length) :
    ∃ s' H', aappend P (H ++ [.own c]) t tx v (.slice (some ⟨H.length, 0, .none⟩) 1 s) = some (s', H') ∧ OSn s H.length H' s' (n + 1) (cells ++ c) ∧ Keeps b H H' ∧ ∀ p y, (∀ o m e, v ≠ .slice (some ⟨p, o, .none⟩) m e) → H[p]? = some y → H'[p]? = some y := by
  have hsrc : asrcZ P (H ++ [.own c]) t tx (.slice (some ⟨H.length, 0, .none⟩) 1 s) s bytes = some (c, 1) := by
    rw [asrcZ_slice ht]
    unfold asrc
    simp only [ht, if_true, AH.cells_own (gpush H (.own c)), Nat.one_mul, Nat.zero_add, List.drop_zero]
    rw [if_neg (by decide), if_pos ⟨by omega, by rw [List.take_of_length_le (by omega)]; exact hv⟩, List.take_of_length_le (by omega)]
  have hl1 : (H ++ [ABlk.own c]).length = H.length + 1 := by rw [List.length_append]; rfl
  unfold aappend
  rcases h with ⟨rfl, rfl, rfl⟩ | ⟨g, rfl, hg, hbg⟩
  · refine ⟨.slice (some ⟨(H ++ [ABlk.own c]).length, 0, .none⟩) 1 s, H ++ [.own c] ++ [.own c], ?_, .inr ⟨(H ++ [ABlk.own c]).length, rfl, by rw [List.nil_append]; exact gpush _ _, by omega⟩, ((Keeps.refl _ _).push hbl _).push hbl _, fun p y _ hy => Ext.push _ _ _ _ (Ext.push _ _ _ _ hy)⟩
    simp only [he, hsrc]
    rw [if_neg (by decide), if_pos ⟨by omega, by omega⟩]
  · have hg2 : (H ++ [ABlk.own c])[g]? = some (.own cells) := Ext.push _ _ _ _ hg
    refine ⟨.slice (some ⟨(H ++ [ABlk.own c]).length, 0, .none⟩) (n + 1) s, (H ++ [ABlk.own c]).set g .dead ++ [.own (cells ++ c)], ?_, .inr ⟨(H ++ [ABlk.own c]).length, rfl, ?_, by omega⟩, (((Keeps.refl _ _).push hbl _).set hbg _).push hbl _, fun p y hp hy => Ext.push _ _ _ _ ?_⟩
    · simp only [he, hsrc, hg2]
      rw [if_neg (by decide), if_pos ⟨trivial, by omega, by omega, hb, hn⟩, List.drop_zero, ← hc, List.take_length]
    · have : (H ++ [ABlk.own c]).length = ((H ++ [ABlk.own c]).set g ABlk.dead).length := by rw [List.length_set]
      rw [this]; exact gpush _ _
    · rw [List.getElem?_set_ne (fun e => hp 0 n s (by rw [e]))]; exact Ext.push _ _ _ _ hy
/-- What a reader has behind i entries, and the entries. -/
def rdES (r : Rd) : Nat → Rd
  | 0 => r
  | i + 1 => ((rdES r i).num' 1 63).text' 24
def rdE (r : Rd) : En := ((r.num' 1 63).text 24, ((r.num 1 63).toNat : Int))
def rdEL (r : Rd) : Nat → List En
  | 0 => []
  | i + 1 => rdEL r i ++ [rdE (rdES r i)]
theorem rdEL_length (r : Rd) : ∀ i, (rdEL r i).length = i
  | 0 => rfl
  | i + 1 => by rw [rdEL, List.length_append, rdEL_length r i]; rfl
theorem bytesP_len (r : Rd) (k : Nat) : (r.bytes' k).b.length ≤ r.b.length := by
  unfold Rd.bytes'
  split
  · split
    · simp only [List.length_drop]; omega
    · exact Nat.le_refl _
  · exact Nat.le_refl _
theorem textP_len (r : Rd) (p : Nat) : (r.text' p).b.length ≤ r.b.length := by
  unfold Rd.text'
  split
  · rw [fails_b]; exact bytesP_len _ _
  · exact bytesP_len _ _
theorem numP_len (r : Rd) (k : Nat) (m : UInt64) : (r.num' k m).b.length ≤ r.b.length := by
  unfold Rd.num'
  split
  · exact bytesP_len _ _
  · rw [fails_b]; exact bytesP_len _ _
theorem rdES_len (r : Rd) : ∀ i, (rdES r i).b.length ≤ r.b.length
  | 0 => Nat.le_refl _
  | i + 1 => by rw [rdES]; exact Nat.le_trans (textP_len _ _) (Nat.le_trans (numP_len _ _ _) (rdES_len r i))
theorem bytes'_err {r : Rd} (h : r.e ≠ 0) (k : Nat) : (r.bytes' k).e = r.e := by rw [Rd.bytes', if_neg h]
theorem fails_err {r : Rd} (k : Int) (hk : k ≠ 0) : (r.fails k).e ≠ 0 := by
  unfold Rd.fails; split
  · exact hk
  · assumption
theorem text'_err {r : Rd} (h : r.e ≠ 0) (p : Nat) : (r.text' p).e ≠ 0 := by
  unfold Rd.text'
  split
  · exact fails_err 3 (by decide)
  · rw [bytes'_err h]; exact h
theorem text_step {b : List UInt8} (p : Nat) (hl : p + 1 ≤ b.length) :
    (textOk (b.take (p + 1)) → Rd.text ⟨b, 0⟩ p = textIn (b.take (p + 1)) ∧ Rd.text' ⟨b, 0⟩ p = ⟨b.drop (p + 1), 0⟩) ∧ (¬ textOk (b.take (p + 1)) → (Rd.text' ⟨b, 0⟩ p).e ≠ 0) := by
  have h1 : Rd.bytes ⟨b, 0⟩ (p + 1) = b.take (p + 1) := by rw [Rd.bytes, if_pos ⟨rfl, hl⟩]
  have h2 : Rd.bytes' ⟨b, 0⟩ (p + 1) = ⟨b.drop (p + 1), 0⟩ := by rw [Rd.bytes', if_pos rfl, if_pos hl]
  have h3 : b.take (p + 1) ≠ [] := fun e => by have := congrArg List.length e; rw [List.length_take, List.length_nil] at this; omega
  refine ⟨fun h => ?_, fun h => ?_⟩
  · rw [Rd.text, Rd.text', h1, h2, if_pos h, if_neg (fun k => k.2 h)]
    exact ⟨rfl, rfl⟩
  · rw [Rd.text', h1, h2, if_pos ⟨h3, h⟩]
    exact fails_err 3 (by decide)
theorem rd_num63 (x : UInt8) (l : List UInt8) : Rd.num ⟨x :: l, 0⟩ 1 63 = (if x.toNat ≤ 63 then x.toUInt64 else 0) ∧ Rd.num' ⟨x :: l, 0⟩ 1 63 = (if x.toNat ≤ 63 then ⟨l, 0⟩ else ⟨l, 3⟩) := by
  have hb : Rd.bytes ⟨x :: l, 0⟩ 1 = [x] := by rw [Rd.bytes, if_pos ⟨rfl, by simp⟩]; rfl
  have hb' : Rd.bytes' ⟨x :: l, 0⟩ 1 = ⟨l, 0⟩ := by rw [Rd.bytes', if_pos rfl, if_pos (by simp)]; rfl
  have hl : leN [x] = x.toUInt64 := by
    rw [← UInt64.toNat_inj, leN_toNat _ (by simp), UInt8.toNat_toUInt64]; simp [leNat]
  unfold Rd.num Rd.num'
  rw [hb, hb', hl, UInt8.toNat_toUInt64]
  exact ⟨rfl, rfl⟩
theorem rd_stepE {b : List UInt8} (i : Nat) (hi : 26 * i < b.length) :
    (26 * i + 26 ≤ b.length ∧ okN b i → rdE ⟨b.drop (26 * i), 0⟩ = enA b i ∧ ((Rd.mk (b.drop (26 * i)) 0).num' 1 63).text' 24 = ⟨b.drop (26 * (i + 1)), 0⟩) ∧
    (¬ (26 * i + 26 ≤ b.length ∧ okN b i) → (((Rd.mk (b.drop (26 * i)) 0).num' 1 63).text' 24).e ≠ 0) := by
  have hn : ndE b i = b[26 * i] := by rw [ndE, List.getD_eq_getElem?_getD, List.getElem?_eq_getElem hi]; rfl
  obtain ⟨n1, n2⟩ := rd_num63 b[26 * i] (b.drop (26 * i + 1))
  unfold rdE
  rw [List.drop_eq_getElem_cons hi, n1, n2, ← hn]
  have hdl : (b.drop (26 * i + 1)).length = b.length - (26 * i + 1) := List.length_drop
  by_cases h63 : (ndE b i).toNat ≤ 63
  · rw [if_pos h63, if_pos h63]
    by_cases hl : 24 + 1 ≤ (b.drop (26 * i + 1)).length
    · obtain ⟨t1, t2⟩ := text_step (b := b.drop (26 * i + 1)) 24 hl
      have c1 : (b.drop (26 * i + 1)).take (24 + 1) = cnE b i := rfl
      rw [c1] at t1 t2
      refine ⟨fun h => ?_, fun h => t2 fun k => h ⟨by omega, h63, k⟩⟩
      obtain ⟨a1, a2⟩ := t1 h.2.2
      rw [a1, a2, List.drop_drop, UInt8.toNat_toUInt64]
      exact ⟨rfl, rfl⟩
    · refine ⟨fun h => by have := h.1; omega, fun _ => ?_⟩
      have h1 : Rd.bytes ⟨b.drop (26 * i + 1), 0⟩ (24 + 1) = [] := by rw [Rd.bytes, if_neg (fun k => hl k.2)]
      have h2 : Rd.bytes' ⟨b.drop (26 * i + 1), 0⟩ (24 + 1) = ⟨b.drop (26 * i + 1), 4⟩ := by rw [Rd.bytes', if_pos rfl, if_neg hl]
      rw [Rd.text', h1, h2, if_neg (fun k => k.1 rfl)]
      show (4 : Int) ≠ 0; decide
  · rw [if_neg h63, if_neg h63]
    exact ⟨fun h => absurd h.2.1 h63, fun _ => text'_err (show (3 : Int) ≠ 0 by decide) 24⟩
/-- How far a reader of entries has come: all well so far, or never again. -/
def farE (b : List UInt8) (i : Nat) : Prop := (26 * i ≤ b.length ∧ ∀ j, j < i → okN b j) ∨ ((rdES ⟨b, 0⟩ i).e ≠ 0 ∧ ¬ okE b)
theorem farE_good {b : List UInt8} : ∀ i, 26 * i ≤ b.length → (∀ j, j < i → okN b j) → rdES ⟨b, 0⟩ i = ⟨b.drop (26 * i), 0⟩ ∧ rdEL ⟨b, 0⟩ i = lsE b i
  | 0, _, _ => ⟨rfl, rfl⟩
  | i + 1, h, k => by
    obtain ⟨e1, e2⟩ := farE_good i (by omega) (fun j hj => k j (by omega))
    obtain ⟨s1, s2⟩ := (rd_stepE i (by omega)).1 ⟨by omega, k i (by omega)⟩
    rw [rdES, rdEL, lsE_succ, e1, e2, s1]
    exact ⟨s2, rfl⟩
theorem farE_left {b : List UInt8} {i : Nat} (h : farE b i) (hl : 0 < (rdES ⟨b, 0⟩ i).left) : 26 * i < b.length ∧ ∀ j, j < i → okN b j := by
  rcases h with ⟨h1, h2⟩ | ⟨h1, _⟩
  · obtain ⟨e1, _⟩ := farE_good i h1 h2
    rw [e1, Rd.left, if_pos rfl, List.length_drop] at hl
    exact ⟨by omega, h2⟩
  · rw [Rd.left, if_neg h1] at hl; omega
theorem farE_next {b : List UInt8} {i : Nat} (h1 : 26 * i < b.length) (h2 : ∀ j, j < i → okN b j) : farE b (i + 1) := by
  obtain ⟨e1, _⟩ := farE_good i (by omega) h2
  by_cases h : 26 * i + 26 ≤ b.length ∧ okN b i
  · refine .inl ⟨by omega, fun j hj => ?_⟩
    rcases Nat.lt_or_ge j i with k | k
    · exact h2 j k
    · obtain rfl : j = i := by omega
      exact h.2
  · refine .inr ⟨?_, fun k => h ⟨?_, k.2.1 i ?_⟩⟩
    · rw [rdES, e1]; exact (rd_stepE i h1).2 h
    · have := k.1; omega
    · have := k.1; omega
theorem farE_end {b : List UInt8} {i : Nat} (h : farE b i) (hl : (rdES ⟨b, 0⟩ i).left = 0) : ((rdES ⟨b, 0⟩ i).e = 0 ∧ rdEL ⟨b, 0⟩ i = lsE b (b.length / 26) ∧ i = b.length / 26 ∧ (mayE (lsE b (b.length / 26)) ↔ okE b)) ∨ ((rdES ⟨b, 0⟩ i).e ≠ 0 ∧ ¬ okE b) := by
  rcases h with ⟨h1, h2⟩ | h
  · obtain ⟨e1, e2⟩ := farE_good i h1 h2
    rw [e1, Rd.left, if_pos rfl, List.length_drop] at hl
    have hi : i = b.length / 26 := by omega
    refine .inl ⟨by rw [e1], by rw [e2, hi], hi, fun k => ⟨by omega, fun j hj => h2 j (by omega), k⟩, fun k => k.2.2⟩
  · exact .inr h
/-- What is left to be read. -/
def mesE (b : List UInt8) (i : Nat) : Nat := if (rdES ⟨b, 0⟩ i).e = 0 then b.length + 1 - 26 * i else 0
theorem mesE_next {b : List UInt8} {i : Nat} (h1 : 26 * i < b.length) (h2 : ∀ j, j < i → okN b j) : mesE b (i + 1) < mesE b i := by
  obtain ⟨e1, _⟩ := farE_good i (by omega) h2
  unfold mesE
  rw [e1, if_pos rfl]
  split <;> omega
/-- How a slice's bytes become a string. -/
theorem SL.cv {H : AH} {v : Value} {l : List UInt8} (h : SL H v (l.map U8)) : (v = .slice none 0 0 ∧ l = []) ∨ (∃ g o e, v = .slice (some ⟨g, o, .none⟩) 0 e ∧ l = []) ∨ ∃ g o e cs, v = .slice (some ⟨g, o, .none⟩) l.length e ∧ H.cells g = some cs ∧ o + l.length ≤ cs.length ∧ bytesOf ((cs.drop o).take l.length) = some l ∧ ¬ l.length = 0 := by
  by_cases hl : l = []
  · subst hl
    rcases h with ⟨h, _⟩ | ⟨g, o, e, h, _⟩
    · exact .inl ⟨h, rfl⟩
    · exact .inr (.inl ⟨g, o, e, h, rfl⟩)
  · have hp := List.length_pos_iff.2 hl
    rcases h with ⟨_, h⟩ | ⟨g, o, e, rfl, h⟩
    · exact absurd (List.map_eq_nil_iff.1 h) hl
    · obtain ⟨cs, h1, h2, h3, h4⟩ := SL.str (H := H) (g := g) (o := o) (e := e) (.inr ⟨g, o, e, rfl, h⟩) hp
      exact .inr (.inr ⟨g, o, e, cs, by rw [List.length_map], h1, h3, h4, by omega⟩)
end Go.Proofs.YtldfnfpinemedaaDoor
