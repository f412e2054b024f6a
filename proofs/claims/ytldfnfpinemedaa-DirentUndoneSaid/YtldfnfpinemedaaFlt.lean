/- Flat lists of parts of one length; strings as lists. -/
import Derived.Test.YtldfnfpinemedaaPk1
namespace Go.Proofs.Ytldfnfpinemedaa
open Go Go.RowKit
set_option linter.unusedSimpArgs false
set_option linter.unusedVariables false
set_option maxRecDepth 4000
theorem flatG_length {α β : Type} (s : Nat) (f : α → List β) : ∀ (xs : List α), (∀ a ∈ xs, (f a).length = s) → (xs.map f).flatten.length = s * xs.length
  | [], _ => by simp
  | a :: r, h => by
    simp only [List.map_cons, List.flatten_cons, List.length_append, h a (by simp), List.length_cons]
    rw [flatG_length s f r (fun b hb => h b (by simp [hb])), Nat.mul_add]; omega
theorem flatG {α β : Type} (s : Nat) (f : α → List β) : ∀ (xs : List α), (∀ a ∈ xs, (f a).length = s) → ∀ (i : Nat) (hi : i < xs.length), ((xs.map f).flatten.drop (s * i)).take s = f xs[i]
  | [], _, i, hi => absurd hi (by simp)
  | a :: r, h, 0, _ => by
    simp only [List.map_cons, List.flatten_cons, Nat.mul_zero, List.drop_zero, List.getElem_cons_zero]
    have ha := h a (by simp)
    rw [List.take_append_of_le_length (by omega), List.take_of_length_le (by omega)]
  | a :: r, h, i + 1, hi => by
    simp only [List.map_cons, List.flatten_cons, List.getElem_cons_succ]
    have ha := h a (by simp)
    rw [show s * (i + 1) = (f a).length + s * i by rw [ha, Nat.mul_add]; omega, ← List.drop_drop, List.drop_left]
    exact flatG s f r (fun b hb => h b (by simp [hb])) i (by simpa using hi)
/-- One element over another one: the flat list. -/
theorem flatG_set {α β : Type} (s : Nat) (f : α → List β) : ∀ (xs : List α), (∀ a ∈ xs, (f a).length = s) → ∀ (i : Nat) (hi : i < xs.length) (y : α), ((xs.set i y).map f).flatten = (xs.map f).flatten.take (s * i) ++ f y ++ (xs.map f).flatten.drop (s * i + s)
  | [], _, i, hi, y => absurd hi (by simp)
  | a :: r, h, 0, _, y => by
    have ha := h a (by simp)
    simp only [List.set_cons_zero, List.map_cons, List.flatten_cons, Nat.mul_zero, Nat.zero_add, List.take_zero, List.nil_append]
    rw [← ha, List.drop_left]
  | a :: r, h, i + 1, hi, y => by
    have ha := h a (by simp)
    simp only [List.set_cons_succ, List.map_cons, List.flatten_cons]
    rw [flatG_set s f r (fun b hb => h b (by simp [hb])) i (by simpa using hi) y]
    rw [show s * (i + 1) = (f a).length + s * i by rw [ha, Nat.mul_add]; omega, List.take_length_add_append, show (f a).length + s * i + s = (f a).length + (s * i + s) by omega, List.drop_length_add_append]
    simp only [List.append_assoc]
theorem ba_loop (a : ByteArray) : ∀ (k i : Nat) (r : List UInt8), a.size - i = k → ByteArray.toList.loop a i r = r.reverse ++ a.data.toList.drop i := by
  intro k
  induction k with
  | zero =>
    intro i r h
    unfold ByteArray.toList.loop
    have : ¬ i < a.size := by omega
    rw [if_neg this, List.drop_of_length_le (by simp only [Array.length_toList]; exact Nat.not_lt.1 this), List.append_nil]
  | succ k ih =>
    intro i r h
    have hi : i < a.size := by omega
    unfold ByteArray.toList.loop
    rw [if_pos hi, ih (i + 1) _ (by omega), List.reverse_cons, List.append_assoc]
    have hi2 : i < a.data.toList.length := by simpa using hi
    rw [List.drop_eq_getElem_cons hi2]
    have : a.get! i = a.data.toList[i] := by
      show a.data[i]! = _
      rw [getElem!_pos a.data i hi]; simp
    rw [this]; rfl
theorem ba_toList (a : ByteArray) : a.toList = a.data.toList := by
  unfold ByteArray.toList
  rw [ba_loop a a.size 0 [] (by omega)]; rfl
def bs (l : List UInt8) : ByteArray := ⟨l.toArray⟩
theorem bs_list (l : List UInt8) : (bs l).toList = l := by rw [ba_toList]; rfl
theorem bs_size (l : List UInt8) : (bs l).size = l.length := rfl
theorem bs_of (s : ByteArray) : bs s.data.toList = s := rfl
theorem less_nil (l : List UInt8) : Op.bytesLess l [] = false := by cases l <;> rfl
theorem less_tri : ∀ a b : List UInt8, (!(Op.bytesLess b a || b == a)) = Op.bytesLess a b
  | [], [] => rfl
  | [], b :: y => by simp [Op.bytesLess]
  | a :: x, [] => by simp [Op.bytesLess]
  | a :: x, b :: y => by
    have ih := less_tri x y
    simp only [Op.bytesLess]
    rcases Nat.lt_trichotomy a.toNat b.toNat with h | h | h
    · have h1 : a < b := h
      have h2 : ¬ b < a := fun k => by have : b.toNat < a.toNat := k; omega
      have h3 : b ≠ a := fun k => by rw [k] at h; omega
      simp [h1, h2, h3]
    · have h1 : a = b := UInt8.toNat_inj.1 h
      subst h1
      have h2 : ¬ a < a := fun k => by have : a.toNat < a.toNat := k; omega
      simp only [h2, decide_false, Bool.false_or, beq_self_eq_true, Bool.true_and, ← ih]
      simp
    · have h1 : b < a := h
      have h2 : ¬ a < b := fun k => by have : a.toNat < b.toNat := k; omega
      have h3 : a ≠ b := fun k => by rw [k] at h; omega
      simp [h1, h2, h3]
end Go.Proofs.Ytldfnfpinemedaa
