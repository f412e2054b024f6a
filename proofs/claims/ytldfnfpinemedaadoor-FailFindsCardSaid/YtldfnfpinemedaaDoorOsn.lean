/- Owned slices of elements of some cells. -/
import Derived.Test.YtldfnfpinemedaaDoorSst
import Derived.Test.YtldfnfpinemedaaDoorC7
namespace Go.Proofs.YtldfnfpinemedaaDoor
open Go Go.RowKit
set_option linter.unusedSimpArgs false
set_option linter.unusedVariables false
set_option maxRecDepth 4000
/-- An owned slice of elements of s cells. -/
def OSn (s b : Nat) (H : AH) (v : Value) (n : Nat) (cells : List Value) : Prop := (v = .slice none 0 0 ∧ n = 0 ∧ cells = []) ∨ ∃ g, v = .slice (some ⟨g, 0, none⟩) n s ∧ H[g]? = some (.own cells) ∧ b ≤ g
theorem OSn.sln {s b : Nat} {H : AH} {v : Value} {n : Nat} {cells : List Value} (h : OSn s b H v n cells) : SLn H v n cells := by
  rcases h with ⟨h, h0, h1⟩ | ⟨g, h, h1, h2⟩
  · exact .inl ⟨h, h1, h0⟩
  · exact .inr ⟨g, 0, s, h, .inr ⟨cells, AH.cells_own h1, by omega, by rw [List.drop_zero, List.take_length]⟩⟩
theorem OSn.none {s b : Nat} (H : AH) : OSn s b H (.slice none 0 0) 0 [] := .inl ⟨rfl, rfl, rfl⟩
theorem OSn.mono {s b : Nat} {H H' : AH} {v : Value} {n : Nat} {cells : List Value} (h : OSn s b H v n cells) (e : Ext H H') : OSn s b H' v n cells := by
  rcases h with h | ⟨g, h1, h2, h3⟩
  · exact .inl h
  · exact .inr ⟨g, h1, e _ _ h2, h3⟩
theorem OSn.butn {s b q : Nat} {H H' : AH} {v : Value} {n : Nat} {cells : List Value} (h : OSn s b H v n cells) (hq : ∀ o m e, v ≠ .slice (some ⟨q, o, .none⟩) m e) (e : But q H H') : OSn s b H' v n cells := by
  rcases h with h | ⟨g, h1, h2, h3⟩
  · exact .inl h
  · exact .inr ⟨g, h1, e _ _ (fun k => hq _ _ _ (by rw [h1, k])) h2, h3⟩
theorem OSn.low {s b c : Nat} {H : AH} {v : Value} {n : Nat} {cells : List Value} (h : OSn s b H v n cells) (hc : c ≤ b) : OSn s c H v n cells := by
  rcases h with h | ⟨g, h1, h2, h3⟩
  · exact .inl h
  · exact .inr ⟨g, h1, h2, by omega⟩
theorem OSn.app1 {P : Program} {H : AH} {t tx b s bytes n : Nat} {v : Value} {cells c : List Value} (he : elemT P t = some (s, bytes)) (ht : sliceT P tx = true) (h : OSn s b H v n cells) (hc : cells.length = n * s) (hcl : c.length = s) (hv : c.all cellv = true) (hs : 0 < s) (hb : (n + 1) * bytes ≤ 140737488355328) (hn : n + 1 ≤ 9223372036854775807) (hbl : b ≤ H.length) :
    ∃ s' H', aappend P (H ++ [.own c]) t tx v (.slice (some ⟨H.length, 0, .none⟩) 1 s) = some (s', H') ∧ OSn s H.length H' s' (n + 1) (cells ++ c) ∧ Keeps b H H' ∧ ∀ p y, (∀ o m e, v ≠ .slice (some ⟨p, o, .none⟩) m e) → H[p]? = some y → H'[p]? = some y := by
  have hsrc : asrcZ P (H ++ [.own c]) t tx (.slice (some ⟨H.length, 0, .none⟩) 1 s) s bytes = some (c, 1) := by
    rw [asrcZ_slice ht]
    unfold asrc
    simp only [ht, if_true, AH.cells_own (gpush H (.own c)), Nat.one_mul, Nat.zero_add, List.drop_zero]
    rw [if_neg (by decide), if_pos ⟨by omega, by rw [List.take_of_length_le (by omega)]; exact hv⟩, List.take_of_length_le (by omega)]
  have hl1 : (H ++ [ABlk.own c]).length = H.length + 1 := by rw [List.length_append]; rfl
  unfold aappend
  rcases h with ⟨rfl, rfl, rfl⟩ | ⟨g, rfl, hg, hbg⟩
  · refine ⟨.slice (some ⟨(H ++ [ABlk.own c]).length, 0, .none⟩) 1 s, H ++ [.own c] ++ [.own c], ?_, .inr ⟨(H ++ [ABlk.own c]).length, rfl, by rw [List.nil_append]; exact gpush _ _, by omega⟩, ((Keeps.refl _ _).push hbl _).push hbl _, fun p y _ hy => Ext.push _ _ _ _ (Ext.push _ _ _ _ hy)⟩
    simp only [he, hsrc]
    rw [if_neg (by decide), if_pos ⟨by omega, by omega⟩]
  · have hg2 : (H ++ [ABlk.own c])[g]? = some (.own cells) := Ext.push _ _ _ _ hg
    refine ⟨.slice (some ⟨(H ++ [ABlk.own c]).length, 0, .none⟩) (n + 1) s, (H ++ [ABlk.own c]).set g .dead ++ [.own (cells ++ c)], ?_, .inr ⟨(H ++ [ABlk.own c]).length, rfl, ?_, by omega⟩, (((Keeps.refl _ _).push hbl _).set hbg _).push hbl _, fun p y hp hy => Ext.push _ _ _ _ ?_⟩
    · simp only [he, hsrc, hg2]
      rw [if_neg (by decide), if_pos ⟨trivial, by omega, by omega, hb, hn⟩, List.drop_zero, ← hc, List.take_length]
    · have : (H ++ [ABlk.own c]).length = ((H ++ [ABlk.own c]).set g ABlk.dead).length := by rw [List.length_set]
      rw [this]; exact gpush _ _
    · rw [List.getElem?_set_ne (fun e => hp 0 n s (by rw [e]))]; exact Ext.push _ _ _ _ hy
theorem OSn.lt {s b : Nat} {H : AH} {v : Value} {n : Nat} {cells : List Value} (h : OSn s b H v n cells) : ∀ q o m e, v = .slice (some ⟨q, o, .none⟩) m e → q < H.length ∧ b ≤ q := by
  intro q o m e k
  rcases h with ⟨h, _⟩ | ⟨g, h, h1, h2⟩
  · rw [h] at k; cases k
  · rw [h] at k; cases k; exact ⟨got_lt h1, h2⟩
end Go.Proofs.YtldfnfpinemedaaDoor
