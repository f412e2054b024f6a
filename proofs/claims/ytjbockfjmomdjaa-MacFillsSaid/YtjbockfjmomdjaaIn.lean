/- What the arguments of the laws may be. Written by inp.py. -/
import Derived.Test.YtjbockfjmomdjaaC5
import Derived.Test.YtjbockfjmomdjaaTy
import Derived.KernelRfl
namespace Go.Proofs.Ytjbockfjmomdjaa
open Go Go.RowKit
set_option linter.unusedSimpArgs false
set_option linter.unusedVariables false
set_option maxRecDepth 100000
def SLn (H : AH) (v : Value) (n : Nat) (cells : List Value) : Prop := (v = .slice none 0 0 ∧ cells = [] ∧ n = 0) ∨ ∃ g o e, v = .slice (some ⟨g, o, none⟩) n e ∧ (cells = [] ∧ n = 0 ∨ ∃ cs, H.cells g = some cs ∧ o + cells.length ≤ cs.length ∧ (cs.drop o).take cells.length = cells)
theorem partsG {α : Type} (c : α → List Value) (k : α → Prop) : ∀ parts : List (List Value), (∀ p ∈ parts, ∃ x, p = c x ∧ k x) → ∃ xs : List α, parts.flatten = (xs.map c).flatten ∧ xs.length = parts.length ∧ ∀ x ∈ xs, k x
  | [], _ => ⟨[], rfl, rfl, fun x hx => absurd hx (by simp)⟩
  | p :: r, h => by
    obtain ⟨x, rfl, hx⟩ := h p (by simp)
    obtain ⟨xs, h1, h2, h3⟩ := partsG c k r (fun q hq => h q (by simp [hq]))
    refine ⟨x :: xs, by rw [List.flatten_cons, List.map_cons, List.flatten_cons, h1], by rw [List.length_cons, List.length_cons, h2], fun y hy => ?_⟩
    rcases List.mem_cons.1 hy with rfl | hy
    · exact hx
    · exact h3 y hy
abbrev D5 := UInt8
def c5 (x : D5) : List Value := [U8 x]
def k5 (_ : AH) (_ : D5) : Prop := True
theorem in5 {H : AH} {d : Nat} {a : List Value} (h : AIn Try.prog H d 5 a) : ∃ x : D5, a = c5 x ∧ k5 H x := by
  obtain ⟨x, hx⟩ := ain8 (by kernel_rfl) h
  exact ⟨x, hx, trivial⟩
abbrev D22 := Value × List UInt8
def c22 (x : D22) : List Value := [x.1]
def k22 (H : AH) (x : D22) : Prop := SL H x.1 (x.2.map U8) ∧ x.2.length ≤ maxLen
theorem in22 {H : AH} {d : Nat} {a : List Value} (h : AIn Try.prog H d 22 a) : ∃ x : D22, a = c22 x ∧ k22 H x := by
  cases d with
  | zero => exact h.elim
  | succ d =>
    unfold AIn at h
    simp only [show Try.prog.underlying 22 = some (.slice 5) by kernel_rfl] at h
    rcases h with rfl | rfl | ⟨g, parts, rfl, h0, h1, h2, h3⟩
    · exact ⟨(_, []), rfl, .inl ⟨rfl, rfl⟩, Nat.zero_le _⟩
    · exact ⟨(_, []), rfl, .inr ⟨0, 0, 0, rfl, .inl rfl⟩, Nat.zero_le _⟩
    · obtain ⟨xs, e1, e2⟩ := parts8 (by kernel_rfl) parts (fun p hm => (h3 p hm).1)
      rw [e1] at h2
      exact ⟨(_, xs), rfl, SL.whole _ (AH.cells_ro h2) e2.symm, by rw [e2]; exact h1⟩
abbrev D28 := UInt32
def c28 (x : D28) : List Value := [U32 x]
def k28 (_ : AH) (_ : D28) : Prop := True
theorem in28 {H : AH} {d : Nat} {a : List Value} (h : AIn Try.prog H d 28 a) : ∃ x : D28, a = c28 x ∧ k28 H x := by
  obtain ⟨x, hx⟩ := ain32 (by kernel_rfl) h
  exact ⟨x, hx, trivial⟩
abbrev D3 := Int
def c3 (x : D3) : List Value := [.int .i64 x]
def k3 (_ : AH) (x : D3) : Prop := -9223372036854775808 ≤ x ∧ x ≤ 9223372036854775807
theorem in3 {H : AH} {d : Nat} {a : List Value} (h : AIn Try.prog H d 3 a) : ∃ x : D3, a = c3 x ∧ k3 H x := by
  cases d with
  | zero => exact h.elim
  | succ d =>
    unfold AIn at h
    simp only [show Try.prog.underlying 3 = some (.int .i64) by kernel_rfl] at h
    obtain ⟨n, rfl, hw⟩ := h
    have h1 : IntKind.i64.min = -9223372036854775808 := by decide
    have h2 : IntKind.i64.max = 9223372036854775807 := by decide
    simp only [Lit.wf, h1, h2, Bool.and_eq_true, decide_eq_true_eq] at hw
    exact ⟨n, rfl, hw⟩
abbrev D41 := Value × List D22
def c41 (x : D41) : List Value := [x.1]
def k41 (H : AH) (x : D41) : Prop := SLn H x.1 x.2.length ((x.2.map c22).flatten) ∧ x.2.length ≤ maxLen ∧ ∀ y ∈ x.2, k22 H y
theorem in41 {H : AH} {d : Nat} {a : List Value} (h : AIn Try.prog H d 41 a) : ∃ x : D41, a = c41 x ∧ k41 H x := by
  cases d with
  | zero => exact h.elim
  | succ d =>
    unfold AIn at h
    simp only [show Try.prog.underlying 41 = some (.slice 22) by kernel_rfl] at h
    rcases h with rfl | rfl | ⟨g, parts, rfl, h0, h1, h2, h3⟩
    · exact ⟨(_, []), rfl, .inl ⟨rfl, rfl, rfl⟩, Nat.zero_le _, fun y hy => absurd hy (by simp)⟩
    · exact ⟨(_, []), rfl, .inr ⟨0, 0, 0, rfl, .inl ⟨rfl, rfl⟩⟩, Nat.zero_le _, fun y hy => absurd hy (by simp)⟩
    · obtain ⟨xs, e1, e2, e3⟩ := partsG c22 (k22 H) parts (fun p hm => in22 (h3 p hm).1)
      rw [e1] at h2
      refine ⟨(_, xs), rfl, .inr ⟨g, 0, 0, ?_, .inr ⟨_, AH.cells_ro h2, ?_, ?_⟩⟩, by rw [e2]; exact h1, e3⟩
      · rw [e2]
      · rw [Nat.zero_add]; exact Nat.le_refl _
      · rw [List.drop_zero]; exact List.take_of_length_le (Nat.le_refl _)
theorem arg22 {H : AH} {v : Value} (h : AVal Try.prog H 22 v) : ∃ x : D22, [v] = c22 x ∧ k22 H x := by
  unfold AVal at h
  have hT : Try.prog.underlying 22 = some (.slice 5) := by kernel_rfl
  simp only [hT] at h
  obtain ⟨d, h⟩ := h
  exact in22 h
theorem arg28 {H : AH} {v : Value} (h : AVal Try.prog H 28 v) : ∃ x : D28, [v] = c28 x ∧ k28 H x := by
  unfold AVal at h
  have hT : Try.prog.underlying 28 = some (.int .u32) := by kernel_rfl
  simp only [hT] at h
  obtain ⟨d, h⟩ := h
  exact in28 h
theorem arg3 {H : AH} {v : Value} (h : AVal Try.prog H 3 v) : ∃ x : D3, [v] = c3 x ∧ k3 H x := by
  unfold AVal at h
  have hT : Try.prog.underlying 3 = some (.int .i64) := by kernel_rfl
  simp only [hT] at h
  obtain ⟨d, h⟩ := h
  exact in3 h
theorem arg5 {H : AH} {v : Value} (h : AVal Try.prog H 5 v) : ∃ x : D5, [v] = c5 x ∧ k5 H x := by
  unfold AVal at h
  have hT : Try.prog.underlying 5 = some (.int .u8) := by kernel_rfl
  simp only [hT] at h
  obtain ⟨d, h⟩ := h
  exact in5 h
theorem arg41 {H : AH} {v : Value} (h : AVal Try.prog H 41 v) : ∃ x : D41, [v] = c41 x ∧ k41 H x := by
  unfold AVal at h
  have hT : Try.prog.underlying 41 = some (.slice 22) := by kernel_rfl
  simp only [hT] at h
  obtain ⟨d, h⟩ := h
  exact in41 h
end Go.Proofs.Ytjbockfjmomdjaa
