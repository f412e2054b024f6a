/- Rows written over, and copied within themselves. -/
import Derived.Test.YtldfnfpinemedaaXs
import Derived.Test.YtldfnfpinemedaaSst
namespace Go.Proofs.Ytldfnfpinemedaa
open Go Go.RowKit
set_option linter.unusedSimpArgs false
set_option linter.unusedVariables false
set_option maxRecDepth 4000
theorem ovr_eq (cs vs : List Value) (o : Nat) (h : o + vs.length ≤ cs.length) : ovr cs o vs = cs.take o ++ vs ++ cs.drop (o + vs.length) := by
  match vs, h with
  | [], h =>
    unfold ovr
    simp only [List.length_nil, Nat.add_zero, List.append_nil, List.take_append_drop]
    split
    · rename_i k; exact (List.eq_nil_of_length_eq_zero k.2.symm).symm
    · rfl
  | [v], h =>
    unfold ovr
    simp only [List.length_singleton]
    rw [List.set_eq_take_append_cons_drop, if_pos (by rw [List.length_singleton] at h; omega)]
    simp
  | a :: b :: r, h =>
    unfold ovr
    simp only []
    split
    · rename_i k
      obtain ⟨rfl, k⟩ := k
      rw [List.take_zero, List.nil_append, List.drop_of_length_le (by rw [Nat.zero_add, k]; exact Nat.le_refl _), List.append_nil]
    · rfl
theorem flat_take {α : Type} (s : Nat) (f : α → List Value) (xs : List α) (hf : ∀ a ∈ xs, (f a).length = s) (i : Nat) : ((xs.map f).flatten).take (i * s) = ((xs.take i).map f).flatten := by
  have e : (xs.map f).flatten = ((xs.take i).map f).flatten ++ ((xs.drop i).map f).flatten := by
    rw [← List.flatten_append, ← List.map_append, List.take_append_drop]
  have hl := flatS_length s f (xs.take i) (fun a ha => hf a (List.mem_of_mem_take ha))
  rw [List.length_take] at hl
  rcases Nat.le_total i xs.length with h | h
  · rw [Nat.min_eq_left h] at hl
    rw [e, ← hl, List.take_append_of_le_length (Nat.le_refl _), List.take_length]
  · rw [List.take_of_length_le h, List.take_of_length_le]
    rw [flatS_length s f xs hf]
    exact Nat.mul_le_mul_right _ h
theorem flat_drop {α : Type} (s : Nat) (f : α → List Value) (xs : List α) (hf : ∀ a ∈ xs, (f a).length = s) (i : Nat) : ((xs.map f).flatten).drop (i * s) = ((xs.drop i).map f).flatten := by
  have e : (xs.map f).flatten = ((xs.take i).map f).flatten ++ ((xs.drop i).map f).flatten := by
    rw [← List.flatten_append, ← List.map_append, List.take_append_drop]
  have hl := flatS_length s f (xs.take i) (fun a ha => hf a (List.mem_of_mem_take ha))
  rw [List.length_take] at hl
  rcases Nat.le_total i xs.length with h | h
  · rw [Nat.min_eq_left h] at hl
    rw [e, ← hl, List.drop_append_of_le_length (Nat.le_refl _), List.drop_length, List.nil_append]
  · rw [List.drop_of_length_le h, List.drop_of_length_le]
    · rfl
    · rw [flatS_length s f xs hf]
      exact Nat.mul_le_mul_right _ h
theorem padTo_takek (cs : List Value) (m k : Nat) (h : k ≤ cs.length) : (padTo cs m).take k = cs.take k := by
  unfold padTo
  rw [List.take_append_of_le_length h]
/-- A slice of an owned block's first elements. -/
def DG {α : Type} (f : α → List Value) (s b : Nat) (H : AH) (w : Value) (l : List α) : Prop :=
  (w = .slice none 0 0 ∧ l = []) ∨ ∃ g C, w = .slice (some ⟨g, 0, none⟩) l.length s ∧ H[g]? = some (.own C) ∧ l.length * s ≤ C.length ∧ C.take (l.length * s) = (l.map f).flatten ∧ b ≤ g
theorem DG.sln {α : Type} {f : α → List Value} {s b : Nat} {H : AH} {w : Value} {l : List α} (h : DG f s b H w l) (hf : ∀ a ∈ l, (f a).length = s) : SLn H w l.length (l.map f).flatten := by
  have hl := flatS_length s f l hf
  rcases h with ⟨rfl, rfl⟩ | ⟨g, cs, h, h1, h2, h3, h4⟩
  · exact .inl ⟨rfl, rfl, rfl⟩
  · exact .inr ⟨g, 0, s, h, .inr ⟨cs, AH.cells_own h1, by rw [hl]; omega, by rw [List.drop_zero, hl]; exact h3⟩⟩
theorem DG.mono {α : Type} {f : α → List Value} {s b : Nat} {H H' : AH} {w : Value} {l : List α} (h : DG f s b H w l) (e : Ext H H') : DG f s b H' w l := by
  rcases h with h | ⟨g, cs, h, h1, h2⟩
  · exact .inl h
  · exact .inr ⟨g, cs, h, e _ _ h1, h2⟩
theorem DG.low {α : Type} {f : α → List Value} {s b c : Nat} {H : AH} {w : Value} {l : List α} (h : DG f s b H w l) (hc : c ≤ b) : DG f s c H w l := by
  rcases h with h | ⟨g, cs, h, h1, h2, h3, h4⟩
  · exact .inl h
  · exact .inr ⟨g, cs, h, h1, h2, h3, by omega⟩
theorem DG.lt {α : Type} {f : α → List Value} {s b : Nat} {H : AH} {w : Value} {l : List α} (h : DG f s b H w l) : ∀ q o m e, w = .slice (some ⟨q, o, .none⟩) m e → q < H.length ∧ b ≤ q := by
  intro q o m e k
  rcases h with ⟨h, _⟩ | ⟨g, cs, h, h1, h2, h3, h4⟩
  · rw [h] at k; cases k
  · rw [h] at k; cases k; exact ⟨got_lt h1, h4⟩
theorem DG.none {α : Type} (f : α → List Value) (s b : Nat) (H : AH) : DG f s b H (.slice none 0 0) [] := .inl ⟨rfl, rfl⟩
/-- All blocks but a slice's own stay. -/
def Rest (s : Value) (H H' : AH) : Prop := ∀ p y, (∀ o n e, s ≠ .slice (some ⟨p, o, none⟩) n e) → H[p]? = some y → H'[p]? = some y
theorem Rest.of_but {g o n e : Nat} {H H' : AH} (h : But g H H') : Rest (.slice (some ⟨g, o, none⟩) n e) H H' := fun p y hp hy => h p y (fun k => hp o n e (by rw [k])) hy
theorem Rest.of_ext {s : Value} {H H' : AH} (h : Ext H H') : Rest s H H' := fun p y _ hy => h p y hy
/-- Room is made, and filled. -/
theorem ins_room (C x : List Value) (a b : Nat) (hab : a ≤ b) (hb : b + x.length ≤ C.length) : ovr (ovr C (a + x.length) ((C.drop a).take (b - a))) a x = C.take a ++ x ++ (C.drop a).take (b - a) ++ C.drop (b + x.length) := by
  have hm : ((C.drop a).take (b - a)).length = b - a := by rw [List.length_take, List.length_drop]; omega
  have h1 : ovr C (a + x.length) ((C.drop a).take (b - a)) = C.take (a + x.length) ++ (C.drop a).take (b - a) ++ C.drop (b + x.length) := by
    rw [ovr_eq _ _ _ (by rw [hm]; omega), hm, show a + x.length + (b - a) = b + x.length by omega]
  have hl : (ovr C (a + x.length) ((C.drop a).take (b - a))).length = C.length := ovr_length (by rw [hm]; omega)
  have ht : (C.take (a + x.length)).length = a + x.length := by rw [List.length_take]; omega
  rw [ovr_eq _ _ _ (by rw [hl]; omega), h1, List.append_assoc (C.take (a + x.length))]
  rw [List.take_append_of_le_length (by omega), List.take_take, Nat.min_eq_left (by omega)]
  rw [List.drop_append_of_le_length (by omega), List.drop_of_length_le (by omega), List.nil_append]
  simp only [List.append_assoc]
/-- A new row, filled in two parts behind its first one. -/
theorem ins_new (p z x m : List Value) (hz : z.length = x.length + m.length) : ovr (ovr (p ++ z) p.length x) (p.length + x.length) m = p ++ x ++ m := by
  have hl : (ovr (p ++ z) p.length x).length = (p ++ z).length := ovr_length (by rw [List.length_append]; omega)
  rw [ovr_eq _ _ _ (by rw [hl, List.length_append]; omega), ovr_eq _ _ _ (by rw [List.length_append]; omega)]
  rw [List.take_append_of_le_length (Nat.le_refl _), List.take_length]
  rw [List.take_append_of_le_length (by rw [List.length_append]; exact Nat.le_refl _), show p.length + x.length = (p ++ x).length by rw [List.length_append], List.take_length]
  rw [List.drop_of_length_le (by rw [List.length_append, List.length_append, List.length_drop, List.length_append]; omega), List.append_nil]
/-- A copy of as many elements as there is place for. -/
theorem copy_up {P : Program} {H : AH} {t tx : TypeId} {s bytes g o n e g2 o2 m e2 : Nat} {sp sp2 : Option Nat} {cs cs2 vs : List Value} (he : elemT P t = some (s, bytes)) (ht : sliceT P tx = true) (hnm : n ≤ m) (hn : n ≠ 0) (hg : H[g]? = some (.own cs)) (h2 : H.cells g2 = some cs2)
    (hv : (cs2.drop o2).take (n * s) = vs) (hl : o2 + n * s ≤ cs2.length) (ha : vs.all cellv = true) (hc : o + n * s ≤ cs.length) :
    acopy P H t tx (.slice (some ⟨g, o, sp⟩) n e) (.slice (some ⟨g2, o2, sp2⟩) m e2) = some (.int .i64 n, H.set g (.own (ovr cs o vs))) := by
  subst hv
  have hvl : ((cs2.drop o2).take (n * s)).length = n * s := by rw [List.length_take, List.length_drop]; omega
  have hms : n * s ≤ m * s := Nat.mul_le_mul_right _ hnm
  cases hf : asrc P H tx (.slice (some ⟨g2, o2, sp2⟩) m e2) s with
  | some r =>
    unfold asrc at hf
    simp only [ht, if_true, h2] at hf
    rw [if_neg (by omega)] at hf
    split at hf
    · rename_i hk
      cases hf
      unfold acopy
      have hmn : min (m : Int) (n : Int) = n := by omega
      simp only [he, asrc, ht, if_true, h2, if_neg (show ¬ m = 0 by omega), if_pos hk, hg, Nat.min_eq_right hnm, if_neg hn, List.take_take, Nat.min_eq_left hms, hvl, hmn]
      rw [if_pos ⟨hc, hk.2⟩]
    · cases hf
  | none =>
    have hlt : n < m := by
      rcases Nat.lt_or_ge n m with h | h
      · exact h
      · obtain rfl : n = m := by omega
        unfold asrc at hf
        simp only [ht, if_true, h2, if_neg hn] at hf
        rw [if_pos ⟨hl, ha⟩] at hf
        cases hf
    unfold acopy
    simp only [he, hf, hg]
    rw [if_pos ⟨hlt, hn⟩]
    simp only [asrc, ht, if_true, h2, if_neg hn, if_pos (And.intro hl ha), List.take_take, Nat.min_self, hvl]
    rw [if_pos ⟨hc, ha⟩]
/-- A copy of all elements of a row. -/
theorem copy_dn {P : Program} {H : AH} {t tx : TypeId} {s bytes g o n e g2 o2 m e2 : Nat} {sp sp2 : Option Nat} {cs cs2 vs : List Value} (he : elemT P t = some (s, bytes)) (ht : sliceT P tx = true) (hnm : m ≤ n) (hm : m ≠ 0) (hg : H[g]? = some (.own cs)) (h2 : H.cells g2 = some cs2)
    (hv : (cs2.drop o2).take (m * s) = vs) (hl : o2 + m * s ≤ cs2.length) (ha : vs.all cellv = true) (hc : o + m * s ≤ cs.length) :
    acopy P H t tx (.slice (some ⟨g, o, sp⟩) n e) (.slice (some ⟨g2, o2, sp2⟩) m e2) = some (.int .i64 m, H.set g (.own (ovr cs o vs))) := by
  subst hv
  have hvl : ((cs2.drop o2).take (m * s)).length = m * s := by rw [List.length_take, List.length_drop]; omega
  unfold acopy
  have hmn : min (m : Int) (n : Int) = m := by omega
  simp only [he, asrc, ht, if_true, h2, if_neg hm, if_pos (And.intro hl ha), hg, Nat.min_eq_left hnm, List.take_take, Nat.min_self, hvl, hmn]
  rw [if_pos ⟨hc, ha⟩]
/-- As many zeros as there is no room for, behind a row of known capacity. -/
theorem app_zX {P : Program} {H : AH} {t tx : TypeId} {s bytes g n m c : Nat} {k : IntKind} {C : List Value} (he : elemT P t = some (s, bytes)) (ht : P.underlying tx = some (.int k)) (h2 : 2 ≤ s) (hg : H[g]? = some (.own C)) (hm : 0 < m) (hc : c < n + m) (hl : n * s ≤ C.length) (hb : (n + m) * bytes ≤ 140737488355328) (h63 : n + m ≤ 9223372036854775807) :
    ∃ Z : List Value, Z.length = m * s ∧ aappend P H t tx (.slice (some ⟨g, 0, some c⟩) n s) (.int .i64 (m : Int)) = some (.slice (some ⟨H.length, 0, none⟩) (n + m) s, H ++ [.own (C.take (n * s) ++ Z)]) := by
  have he0 := he
  unfold elemT at he
  split at he
  · rename_i e hu
    split at he
    · rename_i i z hi hz
      split at he
      · rename_i hs
        cases he
        refine ⟨(Builtin.zeroCells z m).toList, by rw [Array.length_toList, zeroCells_size, hs], ?_⟩
        have hmb : m * i.bytes ≤ (n + m) * i.bytes := Nat.mul_le_mul_right _ (by omega)
        have hsrc : asrcZ P H t tx (.int .i64 (m : Int)) i.size i.bytes = some ((Builtin.zeroCells z m).toList, m) := by
          unfold asrcZ
          simp only [ht, hu, hz]
          rw [if_neg (by omega), if_pos ⟨by omega, by omega, by omega, by rw [Int.toNat_natCast]; omega⟩, Int.toNat_natCast]
        unfold aappend
        simp only [he0, hsrc, hg]
        rw [if_neg (by omega), if_pos ⟨trivial, by omega, by omega, hb, h63⟩, if_neg (by omega), List.drop_zero]
      · cases he
    · cases he
  · cases he
/-- One more element behind a row of known capacity. -/
theorem app_xX {P : Program} {H : AH} {t tx : TypeId} {s bytes g n c q e : Nat} {C x : List Value} (he : elemT P t = some (s, bytes)) (ht : sliceT P tx = true) (h2 : 0 < s) (hg : H[g]? = some (.own C)) (hq : H.cells q = some x) (hx : x.length = s) (hxc : x.all cellv = true) (hl : n * s ≤ C.length) (hlc : c * s ≤ C.length) (hb : (n + 1) * bytes ≤ 140737488355328) (h63 : n + 1 ≤ 9223372036854775807) :
    aappend P H t tx (.slice (some ⟨g, 0, some c⟩) n s) (.slice (some ⟨q, 0, none⟩) 1 e) = if n + 1 ≤ c then some (.slice (some ⟨g, 0, some c⟩) (n + 1) s, H.set g (.own (ovr C (n * s) x))) else some (.slice (some ⟨H.length, 0, none⟩) (n + 1) s, H ++ [.own (C.take (n * s) ++ x)]) := by
  have hsrc : asrcZ P H t tx (.slice (some ⟨q, 0, none⟩) 1 e) s bytes = some (x, 1) := by
    rw [asrcZ_slice ht]
    unfold asrc
    simp only [ht, if_true, hq, Nat.one_mul, Nat.zero_add, List.drop_zero]
    rw [if_neg (by decide), List.take_of_length_le (by omega), if_pos ⟨by omega, hxc⟩]
  unfold aappend
  simp only [he, hsrc, hg]
  rw [if_neg (by decide), if_pos ⟨trivial, by omega, by omega, hb, h63⟩, List.drop_zero, Nat.zero_add]
  split
  · rename_i h
    have : (n + 1) * s ≤ c * s := Nat.mul_le_mul_right _ h
    rw [if_pos (by rw [hx]; rw [Nat.add_mul, Nat.one_mul] at this; omega)]
  · rfl
theorem copy_none' {P : Program} {H : AH} {t tx : TypeId} {s bytes g o e g2 o2 m e2 : Nat} {sp sp2 : Option Nat} {cs2 : List Value} (he : elemT P t = some (s, bytes)) (ht : sliceT P tx = true) (h2 : H.cells g2 = some cs2) (hl : o2 + m * s ≤ cs2.length) (ha : ((cs2.drop o2).take (m * s)).all cellv = true) :
    acopy P H t tx (.slice (some ⟨g, o, sp⟩) 0 e) (.slice (some ⟨g2, o2, sp2⟩) m e2) = some (.int .i64 0, H) := by
  unfold acopy
  by_cases hm : m = 0
  · subst hm; simp only [he, asrc, ht, if_true, Nat.min_self]
  · simp only [he, asrc, ht, if_true, if_neg hm, h2, if_pos (And.intro hl ha), Nat.min_zero, if_true]
end Go.Proofs.Ytldfnfpinemedaa
