/- attr: Parse. -/
import Derived.Test.YtfdpmffcdafmgaaDoorAt5
import Derived.Test.YtfdpmffcdafmgaaDoorPk4
namespace Go.Proofs.YtfdpmffcdafmgaaDoor
open Go Go.RowKit
--hide
set_option linter.unusedSimpArgs false
set_option linter.unusedVariables false
set_option maxRecDepth 4000
/-- An owned slice of elements of s cells. -/
def OSn (s b : Nat) (H : AH) (v : Value) (n : Nat) (cells : List Value) : Prop := (v = .slice none 0 0 ∧ n = 0 ∧ cells = []) ∨ ∃ g, v = .slice (some ⟨g, 0, none⟩) n s ∧ H[g]? = some (.own cells) ∧ b ≤ g
theorem OSn.sln {s b : Nat} {H : AH} {v : Value} {n : Nat} {cells : List Value} (h : OSn s b H v n cells) : SLn H v n cells := by
  rcases h with ⟨h, h0, h1⟩ | ⟨g, h, h1, h2⟩
  · exact .inl ⟨h, h1, h0⟩
  · exact .inr ⟨g, 0, s, h, .inr ⟨cells, AH.cells_own h1, by omega, by rw [List.drop_zero, List.take_length]⟩⟩
theorem OSn.none {s b : Nat} (H : AH) : OSn s b H (.slice none 0 0) 0 [] := .inl ⟨rfl, rfl, rfl⟩
theorem OSn.mono {s b : Nat} {H H' : AH} {v : Value} {n : Nat} {cells : List Value} (h : OSn s b H v n cells) (e : Ext H H') : OSn s b H' v n cells := by
  rcases h with h | ⟨g, h1, h2, h3⟩
  · exact .inl h
  · exact .inr ⟨g, h1, e _ _ h2, h3⟩
theorem OSn.butn {s b q : Nat} {H H' : AH} {v : Value} {n : Nat} {cells : List Value} (h : OSn s b H v n cells) (hq : ∀ o m e, v ≠ .slice (some ⟨q, o, .none⟩) m e) (e : But q H H') : OSn s b H' v n cells := by
  rcases h with h | ⟨g, h1, h2, h3⟩
  · exact .inl h
  · exact .inr ⟨g, h1, e _ _ (fun k => hq _ _ _ (by rw [h1, k])) h2, h3⟩
theorem OSn.low {s b c : Nat} {H : AH} {v : Value} {n : Nat} {cells : List Value} (h : OSn s b H v n cells) (hc : c ≤ b) : OSn s c H v n cells := by
  rcases h with h | ⟨g, h1, h2, h3⟩
  · exact .inl h
  · exact .inr ⟨g, h1, h2, by omega⟩
theorem OSn.app1 {P : Program} {H : AH} {t tx b s bytes n : Nat} {v : Value} {cells c : List Value} (he : elemT P t = some (s, bytes)) (ht : sliceT P tx = true) (h : OSn s b H v n cells) (hc : cells.length = n * s) (hcl : c.length = s) (hv : c.all cellv = true) (hs : 0 < s) (hb : (n + 1) * bytes ≤ 140737488355328) (hn : n + 1 ≤ 9223372036854775807) (hbl : b ≤ H.length) :
    ∃ s' H', aappend P (H ++ [.own c]) t tx v (.slice (some ⟨H.length, 0, .none⟩) 1 s) = some (s', H') ∧ OSn s H.length H' s' (n + 1) (cells ++ c) ∧ Keeps b H H' ∧ ∀ p y, (∀ o m e, v ≠ .slice (some ⟨p, o, .none⟩) m e) → H[p]? = some y → H'[p]? = some y := by
  have hsrc : asrcZ P (H ++ [.own c]) t tx (.slice (some ⟨H.length, 0, .none⟩) 1 s) s bytes = some (c, 1) := by
    rw [asrcZ_slice ht]
    unfold asrc
    simp only [ht, if_true, AH.cells_own (gpush H (.own c)), Nat.one_mul, Nat.zero_add, List.drop_zero]
    rw [if_neg (by decide), if_pos ⟨by omega, by rw [List.take_of_length_le (by omega)]; exact hv⟩, List.take_of_length_le (by omega)]
  have hl1 : (H ++ [ABlk.own c]).length = H.length + 1 := by rw [List.length_append]; rfl
  unfold aappend
  rcases h with ⟨rfl, rfl, rfl⟩ | ⟨g, rfl, hg, hbg⟩
  · refine ⟨.slice (some ⟨(H ++ [ABlk.own c]).length, 0, .none⟩) 1 s, H ++ [.own c] ++ [.own c], ?_, .inr ⟨(H ++ [ABlk.own c]).length, rfl, by rw [List.nil_append]; exact gpush _ _, by omega⟩, ((Keeps.refl _ _).push hbl _).push hbl _, fun p y _ hy => Ext.push _ _ _ _ (Ext.push _ _ _ _ hy)⟩
    simp only [he, hsrc]
    rw [if_neg (by decide), if_pos ⟨by omega, by omega⟩]
  · have hg2 : (H ++ [ABlk.own c])[g]? = some (.own cells) := Ext.push _ _ _ _ hg
    refine ⟨.slice (some ⟨(H ++ [ABlk.own c]).length, 0, .none⟩) (n + 1) s, (H ++ [ABlk.own c]).set g .dead ++ [.own (cells ++ c)], ?_, .inr ⟨(H ++ [ABlk.own c]).length, rfl, ?_, by omega⟩, (((Keeps.refl _ _).push hbl _).set hbg _).push hbl _, fun p y hp hy => Ext.push _ _ _ _ ?_⟩
    · simp only [he, hsrc, hg2]
      rw [if_neg (by decide), if_pos ⟨trivial, by omega, by omega, hb, hn⟩, List.drop_zero, ← hc, List.take_length]
    · have : (H ++ [ABlk.own c]).length = ((H ++ [ABlk.own c]).set g ABlk.dead).length := by rw [List.length_set]
      rw [this]; exact gpush _ _
    · rw [List.getElem?_set_ne (fun e => hp 0 n s (by rw [e]))]; exact Ext.push _ _ _ _ hy
/-- What a reader has behind i pairs, and the pairs. -/
def rdS (r : Rd) : Nat → Rd
  | 0 => r
  | i + 1 => ((rdS r i).text' 15).text' 31
def rdP (r : Rd) : Pr := (r.text 15, (r.text' 15).text 31)
def rdL (r : Rd) : Nat → List Pr
  | 0 => []
  | i + 1 => rdL r i ++ [rdP (rdS r i)]
theorem rdL_length (r : Rd) : ∀ i, (rdL r i).length = i
  | 0 => rfl
  | i + 1 => by rw [rdL, List.length_append, rdL_length r i]; rfl
theorem bytesP_len (r : Rd) (k : Nat) : (r.bytes' k).b.length ≤ r.b.length := by
  unfold Rd.bytes'
  split
  · split
    · simp only [List.length_drop]; omega
    · exact Nat.le_refl _
  · exact Nat.le_refl _
theorem textP_len (r : Rd) (p : Nat) : (r.text' p).b.length ≤ r.b.length := by
  unfold Rd.text'
  split
  · rw [fails_b]; exact bytesP_len _ _
  · exact bytesP_len _ _
theorem rdS_len (r : Rd) : ∀ i, (rdS r i).b.length ≤ r.b.length
  | 0 => Nat.le_refl _
  | i + 1 => by rw [rdS]; exact Nat.le_trans (textP_len _ _) (Nat.le_trans (textP_len _ _) (rdS_len r i))
theorem bytes'_err {r : Rd} (h : r.e ≠ 0) (k : Nat) : (r.bytes' k).e = r.e := by rw [Rd.bytes', if_neg h]
theorem fails_err {r : Rd} (k : Int) (hk : k ≠ 0) : (r.fails k).e ≠ 0 := by
  unfold Rd.fails; split
  · exact hk
  · assumption
theorem text'_err {r : Rd} (h : r.e ≠ 0) (p : Nat) : (r.text' p).e ≠ 0 := by
  unfold Rd.text'
  split
  · exact fails_err 3 (by decide)
  · rw [bytes'_err h]; exact h
theorem rdS_err {r : Rd} : ∀ i j, (rdS r i).e ≠ 0 → (rdS r (i + j)).e ≠ 0
  | i, 0, h => h
  | i, j + 1, h => by
    rw [← Nat.add_assoc, rdS]
    exact text'_err (text'_err (rdS_err i j h) 15) 31
theorem text_step {b : List UInt8} (p : Nat) (hl : p + 1 ≤ b.length) :
    (textOk (b.take (p + 1)) → Rd.text ⟨b, 0⟩ p = textIn (b.take (p + 1)) ∧ Rd.text' ⟨b, 0⟩ p = ⟨b.drop (p + 1), 0⟩) ∧ (¬ textOk (b.take (p + 1)) → (Rd.text' ⟨b, 0⟩ p).e ≠ 0) := by
  have h1 : Rd.bytes ⟨b, 0⟩ (p + 1) = b.take (p + 1) := by rw [Rd.bytes, if_pos ⟨rfl, hl⟩]
  have h2 : Rd.bytes' ⟨b, 0⟩ (p + 1) = ⟨b.drop (p + 1), 0⟩ := by rw [Rd.bytes', if_pos rfl, if_pos hl]
  have h3 : b.take (p + 1) ≠ [] := fun e => by have := congrArg List.length e; rw [List.length_take, List.length_nil] at this; omega
  refine ⟨fun h => ?_, fun h => ?_⟩
  · rw [Rd.text, Rd.text', h1, h2, if_pos h, if_neg (fun k => k.2 h)]
    exact ⟨rfl, rfl⟩
  · rw [Rd.text', h1, h2, if_pos ⟨h3, h⟩]
    exact fails_err 3 (by decide)
theorem rd_pairs {page : List UInt8} (hl : page.length = 256) (n : Nat) (hn : n ≤ 5) :
    ((∀ i, i < n → textOk (cN page i) ∧ textOk (cV page i)) → rdS ⟨page.drop 1, 0⟩ n = ⟨page.drop (1 + 48 * n), 0⟩ ∧ rdL ⟨page.drop 1, 0⟩ n = lsA page n) ∧
    ((¬ ∀ i, i < n → textOk (cN page i) ∧ textOk (cV page i)) → (rdS ⟨page.drop 1, 0⟩ n).e ≠ 0) := by
  induction n with
  | zero => exact ⟨fun _ => ⟨rfl, rfl⟩, fun h => absurd (fun i hi => by omega) h⟩
  | succ n ih =>
    obtain ⟨ih1, ih2⟩ := ih (by omega)
    by_cases hp : ∀ i, i < n → textOk (cN page i) ∧ textOk (cV page i)
    · obtain ⟨e1, e2⟩ := ih1 hp
      have l1 : 15 + 1 ≤ (page.drop (1 + 48 * n)).length := by rw [List.length_drop]; omega
      have l2 : 31 + 1 ≤ (page.drop (1 + 48 * n + 16)).length := by rw [List.length_drop]; omega
      obtain ⟨t1, t2⟩ := text_step (b := page.drop (1 + 48 * n)) 15 l1
      obtain ⟨t3, t4⟩ := text_step (b := page.drop (1 + 48 * n + 16)) 31 l2
      have c1 : (page.drop (1 + 48 * n)).take (15 + 1) = cN page n := rfl
      have c2 : (page.drop (1 + 48 * n + 16)).take (31 + 1) = cV page n := rfl
      rw [c1] at t1 t2
      rw [c2] at t3 t4
      by_cases h1 : textOk (cN page n)
      · obtain ⟨a1, a2⟩ := t1 h1
        rw [List.drop_drop] at a2
        by_cases h2 : textOk (cV page n)
        · obtain ⟨a3, a4⟩ := t3 h2
          rw [List.drop_drop] at a4
          refine ⟨fun _ => ?_, fun h => absurd (fun i hi => ?_) h⟩
          · rw [rdS, rdL, lsA_succ, e1, e2, a2]
            refine ⟨a4, ?_⟩
            rw [rdP, a1, a2, a3, prA]
          · rcases Nat.lt_or_ge i n with h | h
            · exact hp i h
            · obtain rfl : i = n := by omega
              exact ⟨h1, h2⟩
        · refine ⟨fun h => absurd (h n (by omega)).2 h2, fun _ => ?_⟩
          rw [rdS, e1, a2]; exact t4 h2
      · refine ⟨fun h => absurd (h n (by omega)).1 h1, fun _ => ?_⟩
        rw [rdS, e1]; exact text'_err (t2 h1) 31
    · refine ⟨fun h => absurd (fun i hi => h i (by omega)) hp, fun _ => ?_⟩
      rw [rdS]; exact text'_err (text'_err (ih2 hp) 15) 31
theorem rest_err {r : Rd} (h : r.e ≠ 0) : r.rest.e ≠ 0 := by
  unfold Rd.rest; split
  · exact h
  · exact fails_err 3 (by decide)
theorem rd_num5 {page : List UInt8} (h : page.length = 256) : Rd.num ⟨page, 0⟩ 1 5 = (if nB page ≤ 5 then (page.getD 0 0).toUInt64 else 0) ∧ Rd.num' ⟨page, 0⟩ 1 5 = (if nB page ≤ 5 then ⟨page.drop 1, 0⟩ else ⟨page.drop 1, 3⟩) := by
  match page, h with
  | x :: l, h =>
    have hb : Rd.bytes ⟨x :: l, 0⟩ 1 = [x] := by rw [Rd.bytes, if_pos ⟨rfl, by simp⟩]; rfl
    have hb' : Rd.bytes' ⟨x :: l, 0⟩ 1 = ⟨l, 0⟩ := by rw [Rd.bytes', if_pos rfl, if_pos (by simp)]; rfl
    have hl : leN [x] = x.toUInt64 := by
      rw [← UInt64.toNat_inj, leN_toNat _ (by simp), UInt8.toNat_toUInt64]; simp [leNat]
    unfold Rd.num Rd.num'
    rw [hb, hb', hl, UInt8.toNat_toUInt64]
    exact ⟨rfl, rfl⟩
/-- How a slice's bytes become a string. -/
theorem SL.cv {H : AH} {v : Value} {l : List UInt8} (h : SL H v (l.map U8)) : (v = .slice none 0 0 ∧ l = []) ∨ (∃ g o e, v = .slice (some ⟨g, o, .none⟩) 0 e ∧ l = []) ∨ ∃ g o e cs, v = .slice (some ⟨g, o, .none⟩) l.length e ∧ H.cells g = some cs ∧ o + l.length ≤ cs.length ∧ bytesOf ((cs.drop o).take l.length) = some l ∧ ¬ l.length = 0 := by
  by_cases hl : l = []
  · subst hl
    rcases h with ⟨h, _⟩ | ⟨g, o, e, h, _⟩
    · exact .inl ⟨h, rfl⟩
    · exact .inr (.inl ⟨g, o, e, h, rfl⟩)
  · have hp := List.length_pos_iff.2 hl
    rcases h with ⟨_, h⟩ | ⟨g, o, e, rfl, h⟩
    · exact absurd (List.map_eq_nil_iff.1 h) hl
    · obtain ⟨cs, h1, h2, h3, h4⟩ := SL.str (H := H) (g := g) (o := o) (e := e) (.inr ⟨g, o, e, rfl, h⟩) hp
      exact .inr (.inr ⟨g, o, e, cs, by rw [List.length_map], h1, h3, h4, by omega⟩)
end Go.Proofs.YtfdpmffcdafmgaaDoor
