/- Slices of elements of more than one cell, plainly. -/
import Derived.Test.YtldfnfpinemedaaDoorIn
namespace Go.Proofs.YtldfnfpinemedaaDoor
open Go Go.RowKit
set_option linter.unusedSimpArgs false
set_option linter.unusedVariables false
set_option maxRecDepth 4000
theorem flatS_length {α : Type} (s : Nat) (f : α → List Value) : ∀ (xs : List α), (∀ a ∈ xs, (f a).length = s) → (xs.map f).flatten.length = xs.length * s
  | [], _ => by simp
  | a :: r, h => by
    simp only [List.map_cons, List.flatten_cons, List.length_append, h a (by simp), List.length_cons]
    rw [flatS_length s f r (fun b hb => h b (by simp [hb])), Nat.add_mul]; omega
theorem flatS {α : Type} (s : Nat) (f : α → List Value) : ∀ (xs : List α), (∀ a ∈ xs, (f a).length = s) → ∀ (i : Nat) (hi : i < xs.length), ((xs.map f).flatten.drop (i * s)).take s = f xs[i]
  | [], _, i, hi => absurd hi (by simp)
  | a :: r, h, 0, _ => by
    simp only [List.map_cons, List.flatten_cons, Nat.zero_mul, List.drop_zero, List.getElem_cons_zero]
    have ha := h a (by simp)
    rw [List.take_append_of_le_length (by omega), List.take_of_length_le (by omega)]
  | a :: r, h, i + 1, hi => by
    simp only [List.map_cons, List.flatten_cons, List.getElem_cons_succ]
    have ha := h a (by simp)
    rw [show (i + 1) * s = (f a).length + i * s by rw [ha, Nat.add_mul]; omega, ← List.drop_drop, List.drop_left]
    exact flatS s f r (fun b hb => h b (by simp [hb])) i (by simpa using hi)
theorem SLn.mono {H H' : AH} {v : Value} {n : Nat} {cells : List Value} (h : SLn H v n cells) (x : Ext H H') : SLn H' v n cells := by
  rcases h with h | ⟨g, o, e, h1, h2⟩
  · exact .inl h
  · refine .inr ⟨g, o, e, h1, ?_⟩
    rcases h2 with h2 | ⟨cs, h2, h3⟩
    · exact .inl h2
    · exact .inr ⟨cs, x.cells h2, h3⟩
theorem SLn.at {α : Type} {s : Nat} {f : α → List Value} {H : AH} {v : Value} {xs : List α} (hf : ∀ a ∈ xs, (f a).length = s) (h : SLn H v xs.length (xs.map f).flatten) (i : Nat) (hi : i < xs.length) :
    ∃ g o e cs, v = .slice (some ⟨g, o, none⟩) xs.length e ∧ H.cells g = some cs ∧ (cs.drop (o + i * s)).take s = f xs[i] ∧ o + i * s + s ≤ cs.length := by
  have hfl := flatS_length s f xs hf
  have hm : i * s + s ≤ xs.length * s := by rw [← Nat.succ_mul]; exact Nat.mul_le_mul_right _ hi
  rcases h with ⟨h, _, h0⟩ | ⟨g, o2, e2, h, h2⟩
  · omega
  · rcases h2 with ⟨h2, h0⟩ | ⟨cs, hc, h1, h2⟩
    · omega
    · refine ⟨g, o2, e2, cs, h, hc, ?_, by rw [hfl] at h1; omega⟩
      have := flatS s f xs hf i hi
      rw [← h2, List.drop_take, List.take_take, List.drop_drop, Nat.min_eq_left (by rw [hfl]; omega)] at this
      exact this
theorem SLn.shape {H : AH} {v : Value} {n : Nat} {cells : List Value} (h : SLn H v n cells) : ∃ p e, v = .slice p n e := by
  rcases h with ⟨h, _, h0⟩ | ⟨g, o, e, h, _⟩
  · exact ⟨_, _, by rw [h, h0]⟩
  · exact ⟨_, _, h⟩
end Go.Proofs.YtldfnfpinemedaaDoor
