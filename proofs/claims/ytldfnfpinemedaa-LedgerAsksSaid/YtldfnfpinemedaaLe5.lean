/- ledger: Add. -/
import Derived.Test.YtldfnfpinemedaaLe4
namespace Go.Proofs.Ytldfnfpinemedaa
open Go Go.RowKit
--hide
set_option linter.unusedSimpArgs false
set_option linter.unusedVariables false
set_option maxRecDepth 4000
theorem flR_mid (A B : List Rn) (x : Rn) : flR (A ++ x :: B) = flR A ++ (ruc x ++ flR B) := by simp [flR]
theorem set_mid (A B : List Rn) (x : Rn) (v : Int) : (flR (A ++ x :: B)).set (A.length * 3 + 2) (.int .i64 v) = flR (A ++ (x.1, x.2.1, v) :: B) := by
  have hA := flR_length A
  rw [flR_mid, flR_mid, List.set_append_right _ _ (by omega), hA, show A.length * 3 + 2 - A.length * 3 = 2 by omega]
  rfl
/-- A slice of runs, at its block. -/
theorem DG.at {b : Nat} {H : AH} {w : Value} {L : List Rn} (h : DG ruc 3 b H w L) (hn : 0 < L.length) : ∃ g C, w = .slice (some ⟨g, 0, .none⟩) L.length 3 ∧ H[g]? = some (.own C) ∧ L.length * 3 ≤ C.length ∧ C.take (L.length * 3) = flR L ∧ b ≤ g := by
  rcases h with ⟨_, h⟩ | h
  · rw [h] at hn; cases hn
  · exact h
theorem at_mid {C : List Value} {A B : List Rn} {x : Rn} {n : Nat} (hn : n = (A ++ x :: B).length) (h : C.take (n * 3) = flR (A ++ x :: B)) (hl : n * 3 ≤ C.length) : (C.drop (A.length * 3)).take 3 = ruc x ∧ C[A.length * 3 + 2]? = some (.int .i64 x.2.2) ∧ A.length * 3 + 3 ≤ C.length := by
  subst hn
  have hA := flR_length A
  have hlen : (A ++ x :: B).length = A.length + 1 + B.length := by rw [List.length_append, List.length_cons]; omega
  have h1 : (C.drop (A.length * 3)).take 3 = ruc x := by
    have e : (C.drop (A.length * 3)).take 3 = ((C.take ((A ++ x :: B).length * 3)).drop (A.length * 3)).take 3 := by
      rw [List.drop_take, List.take_take, Nat.min_eq_left (by rw [hlen]; omega)]
    rw [e, h, flR_mid, List.drop_append_of_le_length (by omega), ← hA, List.drop_length, List.nil_append]
    rfl
  refine ⟨h1, ?_, by rw [hlen] at hl; omega⟩
  have h2 := ruc_2 x
  rw [← h1, List.getElem?_take, if_pos (by decide), List.getElem?_drop] at h2
  exact h2
theorem take_set (C : List Value) (k n : Nat) (v : Value) : (C.set k v).take n = (C.take n).set k v := List.take_set ..
theorem DG.many {b g n : Nat} {H : AH} {C : List Value} {A B : List Rn} {x : Rn} (hn : n = (A ++ x :: B).length) (hg : H[g]? = some (.own C)) (hl : n * 3 ≤ C.length) (ht : C.take (n * 3) = flR (A ++ x :: B)) (hb : b ≤ g) (v : Int) :
    DG ruc 3 b (H.set g (.own (C.set (A.length * 3 + 2) (.int .i64 v)))) (.slice (some ⟨g, 0, .none⟩) n 3) (A ++ (x.1, x.2.1, v) :: B) := by
  have hlen : (A ++ (x.1, x.2.1, v) :: B).length = n := by rw [hn]; simp
  refine .inr ⟨g, _, by rw [hlen], gset _ _ _ (got_lt hg), by rw [hlen, List.length_set]; exact hl, ?_, hb⟩
  rw [hlen, take_set, ht, set_mid]
/-- All blocks but a ledger's own ones stay. -/
def Only (p : Nat) (w : Value) (H H' : AH) : Prop := ∀ q y, q ≠ p → (∀ o n e, w ≠ .slice (some ⟨q, o, none⟩) n e) → H[q]? = some y → H'[q]? = some y
structure Upd (b p : Nat) (w : Value) (H : AH) (w' : Value) (L' : List Rn) (H' : AH) : Prop where
  ld : LdI b p H' w' L'
  only : Only p w H H'
  frm : Frm w w' H
  len : H.length ≤ H'.length
theorem Upd.of_ext {b p : Nat} {w : Value} {L : List Rn} {H H' : AH} (h : LdI b p H w L) (e : Ext H H') : Upd b p w H w L H' :=
  ⟨h.mono e, fun q y _ _ hy => e q y hy, fun q o n e k => .inr ⟨o, n, e, k⟩, e.length⟩
theorem Upd.ext {b p : Nat} {w w' : Value} {L' : List Rn} {H H1 H2 : AH} (h : Upd b p w H w' L' H1) (e : Ext H1 H2) : Upd b p w H w' L' H2 :=
  ⟨h.ld.mono e, fun q y hq hw hy => e _ _ (h.only q y hq hw hy), h.frm, Nat.le_trans h.len e.length⟩
/-- The slice made anew, and stored. -/
theorem Upd.put {b p : Nat} {w w1 w2 : Value} {L1 L2 : List Rn} {H H1 H2 : AH} (h : Upd b p w H w1 L1 H1) (d : DG ruc 3 b H2 w2 L2) (r : Rest w1 H1 H2) (f : Frm w1 w2 H1) (hl : H1.length ≤ H2.length) : Upd b p w H w2 L2 (H2.set p (.own [w2, .bool true])) := by
  obtain ⟨hp, hd, hbp, hnp⟩ := h.ld
  have hpl := got_lt hp
  have hp2 := r _ _ hnp hp
  have hw2 : ∀ o n e, w2 ≠ .slice (some ⟨p, o, none⟩) n e := fun o n e k => by
    rcases f _ _ _ _ k with h1 | ⟨o', n', e', h1⟩
    · omega
    · exact hnp _ _ _ h1
  refine ⟨⟨gset _ _ _ (by omega), ?_, hbp, hw2⟩, fun q y hq hw hy => ?_, fun q o n e k => ?_, by rw [List.length_set]; exact Nat.le_trans h.len hl⟩
  · rcases d with d | ⟨g, C, rfl, d1, d2⟩
    · exact .inl d
    · refine .inr ⟨g, C, rfl, ?_, d2⟩
      rw [gsetn _ _ _ _ (fun e => hw2 0 _ _ (by rw [e]))]; exact d1
  · have hy1 := h.only q y hq hw hy
    rw [gsetn _ _ _ _ (fun e => hq e.symm)]
    refine r _ _ (fun o n e k => ?_) hy1
    rcases h.frm _ _ _ _ k with h1 | ⟨o', n', e', h1⟩
    · have := got_lt hy; omega
    · exact hw _ _ _ h1
  · rcases f _ _ _ _ k with h1 | ⟨o', n', e', h1⟩
    · exact .inl (Nat.le_trans h.len h1)
    · exact h.frm _ _ _ _ h1
/-- A run's number written over. -/
theorem Upd.many {b p n g : Nat} {w : Value} {H H1 : AH} {C : List Value} {A B : List Rn} {x : Rn} (h : Upd b p w H (.slice (some ⟨g, 0, none⟩) n 3) (A ++ x :: B) H1) (hn : n = (A ++ x :: B).length) (hg : H1[g]? = some (.own C)) (hl : n * 3 ≤ C.length) (ht : C.take (n * 3) = flR (A ++ x :: B)) (hb : b ≤ g) (v : Int) :
    Upd b p w H (.slice (some ⟨g, 0, none⟩) n 3) (A ++ (x.1, x.2.1, v) :: B) (H1.set g (.own (C.set (A.length * 3 + 2) (.int .i64 v)))) := by
  obtain ⟨hp, hd, hbp, hnp⟩ := h.ld
  have hgp : g ≠ p := fun e => hnp 0 n 3 (by rw [e])
  refine ⟨⟨(gsetn _ _ _ _ hgp).trans hp, DG.many hn hg hl ht hb v, hbp, hnp⟩, fun q y hq hw hy => ?_, h.frm, by rw [List.length_set]; exact h.len⟩
  have hgq : g ≠ q := fun e => by
    rcases h.frm _ _ _ _ (by rw [e]) with h1 | ⟨o', n', e', h1⟩
    · have := got_lt hy; omega
    · exact hw _ _ _ h1
  exact (gsetn _ _ _ _ hgq).trans (h.only q y hq hw hy)
end Go.Proofs.Ytldfnfpinemedaa
