/- What the arguments of the laws may be. Written by inp.py. -/
import Derived.Test.YtldfnfpinemedaaDoorC6
import Derived.Test.YtldfnfpinemedaaDoorTy
import Derived.KernelRfl
namespace Go.Proofs.YtldfnfpinemedaaDoor
open Go Go.RowKit
set_option linter.unusedSimpArgs false
set_option linter.unusedVariables false
set_option maxRecDepth 100000
def SLn (H : AH) (v : Value) (n : Nat) (cells : List Value) : Prop := (v = .slice none 0 0 ∧ cells = [] ∧ n = 0) ∨ ∃ g o e, v = .slice (some ⟨g, o, none⟩) n e ∧ (cells = [] ∧ n = 0 ∨ ∃ cs, H.cells g = some cs ∧ o + cells.length ≤ cs.length ∧ (cs.drop o).take cells.length = cells)
theorem partsG {α : Type} (c : α → List Value) (k : α → Prop) : ∀ parts : List (List Value), (∀ p ∈ parts, ∃ x, p = c x ∧ k x) → ∃ xs : List α, parts.flatten = (xs.map c).flatten ∧ xs.length = parts.length ∧ ∀ x ∈ xs, k x
  | [], _ => ⟨[], rfl, rfl, fun x hx => absurd hx (by simp)⟩
  | p :: r, h => by
    obtain ⟨x, rfl, hx⟩ := h p (by simp)
    obtain ⟨xs, h1, h2, h3⟩ := partsG c k r (fun q hq => h q (by simp [hq]))
    refine ⟨x :: xs, by rw [List.flatten_cons, List.map_cons, List.flatten_cons, h1], by rw [List.length_cons, List.length_cons, h2], fun y hy => ?_⟩
    rcases List.mem_cons.1 hy with rfl | hy
    · exact hx
    · exact h3 y hy
abbrev D9 := ByteArray
def c9 (x : D9) : List Value := [.string x]
def k9 (_ : AH) (x : D9) : Prop := x.size ≤ maxLen
theorem in9 {H : AH} {d : Nat} {a : List Value} (h : AIn Tryd.prog H d 9 a) : ∃ x : D9, a = c9 x ∧ k9 H x := by
  cases d with
  | zero => exact h.elim
  | succ d =>
    unfold AIn at h
    simp only [show Tryd.prog.underlying 9 = some .string by kernel_rfl] at h
    obtain ⟨n, rfl, hn⟩ := h
    exact ⟨n, rfl, hn⟩
abbrev D35 := D9 × D9
def c35 (x : D35) : List Value := (c9 x.1 ++ c9 x.2)
def k35 (H : AH) (x : D35) : Prop := k9 H x.1 ∧ k9 H x.2
theorem in35 {H : AH} {d : Nat} {a : List Value} (h : AIn Tryd.prog H d 35 a) : ∃ x : D35, a = c35 x ∧ k35 H x := by
  cases d with
  | zero => exact h.elim
  | succ d =>
    unfold AIn at h
    have hT : Tryd.prog.underlying 35 = some (.struct #[{ name := "Op", type := 9, offset := 0, embedded := false, tag := "", pkgPath := "", byteOffset := 0 }, { name := "Path", type := 9, offset := 1, embedded := false, tag := "", pkgPath := "", byteOffset := 16 }]) := by kernel_rfl
    simp only [hT] at h
    obtain ⟨parts, rfl, hl, hp⟩ := h
    match parts, hl with
    | [p0, p1], _ =>
    obtain ⟨x0, e0, y0⟩ := in9 (hp 0 _ p0 rfl rfl).1
    obtain ⟨x1, e1, y1⟩ := in9 (hp 1 _ p1 rfl rfl).1
    exact ⟨(x0, x1), by simp only [List.flatten_cons, List.flatten_nil, List.append_nil, e0, e1, c35], y0, y1⟩
abbrev D22 := Value × List D35
def c22 (x : D22) : List Value := [x.1]
def k22 (H : AH) (x : D22) : Prop := SLn H x.1 x.2.length ((x.2.map c35).flatten) ∧ x.2.length ≤ maxLen ∧ ∀ y ∈ x.2, k35 H y
theorem in22 {H : AH} {d : Nat} {a : List Value} (h : AIn Tryd.prog H d 22 a) : ∃ x : D22, a = c22 x ∧ k22 H x := by
  cases d with
  | zero => exact h.elim
  | succ d =>
    unfold AIn at h
    simp only [show Tryd.prog.underlying 22 = some (.slice 35) by kernel_rfl] at h
    rcases h with rfl | rfl | ⟨g, parts, rfl, h0, h1, h2, h3⟩
    · exact ⟨(_, []), rfl, .inl ⟨rfl, rfl, rfl⟩, Nat.zero_le _, fun y hy => absurd hy (by simp)⟩
    · exact ⟨(_, []), rfl, .inr ⟨0, 0, 0, rfl, .inl ⟨rfl, rfl⟩⟩, Nat.zero_le _, fun y hy => absurd hy (by simp)⟩
    · obtain ⟨xs, e1, e2, e3⟩ := partsG c35 (k35 H) parts (fun p hm => in35 (h3 p hm).1)
      rw [e1] at h2
      refine ⟨(_, xs), rfl, .inr ⟨g, 0, 0, ?_, .inr ⟨_, AH.cells_ro h2, ?_, ?_⟩⟩, by rw [e2]; exact h1, e3⟩
      · rw [e2]
      · rw [Nat.zero_add]; exact Nat.le_refl _
      · rw [List.drop_zero]; exact List.take_of_length_le (Nat.le_refl _)
abbrev D3 := Int
def c3 (x : D3) : List Value := [.int .i64 x]
def k3 (_ : AH) (x : D3) : Prop := -9223372036854775808 ≤ x ∧ x ≤ 9223372036854775807
theorem in3 {H : AH} {d : Nat} {a : List Value} (h : AIn Tryd.prog H d 3 a) : ∃ x : D3, a = c3 x ∧ k3 H x := by
  cases d with
  | zero => exact h.elim
  | succ d =>
    unfold AIn at h
    simp only [show Tryd.prog.underlying 3 = some (.int .i64) by kernel_rfl] at h
    obtain ⟨n, rfl, hw⟩ := h
    have h1 : IntKind.i64.min = -9223372036854775808 := by decide
    have h2 : IntKind.i64.max = 9223372036854775807 := by decide
    simp only [Lit.wf, h1, h2, Bool.and_eq_true, decide_eq_true_eq] at hw
    exact ⟨n, rfl, hw⟩
abbrev D84 := D9 × D3
def c84 (x : D84) : List Value := (c9 x.1 ++ c3 x.2)
def k84 (H : AH) (x : D84) : Prop := k9 H x.1 ∧ k3 H x.2
theorem in84 {H : AH} {d : Nat} {a : List Value} (h : AIn Tryd.prog H d 84 a) : ∃ x : D84, a = c84 x ∧ k84 H x := by
  cases d with
  | zero => exact h.elim
  | succ d =>
    unfold AIn at h
    have hT : Tryd.prog.underlying 84 = some (.struct #[{ name := "Name", type := 9, offset := 0, embedded := false, tag := "", pkgPath := "", byteOffset := 0 }, { name := "Node", type := 3, offset := 1, embedded := false, tag := "", pkgPath := "", byteOffset := 16 }]) := by kernel_rfl
    simp only [hT] at h
    obtain ⟨parts, rfl, hl, hp⟩ := h
    match parts, hl with
    | [p0, p1], _ =>
    obtain ⟨x0, e0, y0⟩ := in9 (hp 0 _ p0 rfl rfl).1
    obtain ⟨x1, e1, y1⟩ := in3 (hp 1 _ p1 rfl rfl).1
    exact ⟨(x0, x1), by simp only [List.flatten_cons, List.flatten_nil, List.append_nil, e0, e1, c84], y0, y1⟩
abbrev D49 := Value × List D84
def c49 (x : D49) : List Value := [x.1]
def k49 (H : AH) (x : D49) : Prop := SLn H x.1 x.2.length ((x.2.map c84).flatten) ∧ x.2.length ≤ maxLen ∧ ∀ y ∈ x.2, k84 H y
theorem in49 {H : AH} {d : Nat} {a : List Value} (h : AIn Tryd.prog H d 49 a) : ∃ x : D49, a = c49 x ∧ k49 H x := by
  cases d with
  | zero => exact h.elim
  | succ d =>
    unfold AIn at h
    simp only [show Tryd.prog.underlying 49 = some (.slice 84) by kernel_rfl] at h
    rcases h with rfl | rfl | ⟨g, parts, rfl, h0, h1, h2, h3⟩
    · exact ⟨(_, []), rfl, .inl ⟨rfl, rfl, rfl⟩, Nat.zero_le _, fun y hy => absurd hy (by simp)⟩
    · exact ⟨(_, []), rfl, .inr ⟨0, 0, 0, rfl, .inl ⟨rfl, rfl⟩⟩, Nat.zero_le _, fun y hy => absurd hy (by simp)⟩
    · obtain ⟨xs, e1, e2, e3⟩ := partsG c84 (k84 H) parts (fun p hm => in84 (h3 p hm).1)
      rw [e1] at h2
      refine ⟨(_, xs), rfl, .inr ⟨g, 0, 0, ?_, .inr ⟨_, AH.cells_ro h2, ?_, ?_⟩⟩, by rw [e2]; exact h1, e3⟩
      · rw [e2]
      · rw [Nat.zero_add]; exact Nat.le_refl _
      · rw [List.drop_zero]; exact List.take_of_length_le (Nat.le_refl _)
abbrev D5 := UInt8
def c5 (x : D5) : List Value := [U8 x]
def k5 (_ : AH) (_ : D5) : Prop := True
theorem in5 {H : AH} {d : Nat} {a : List Value} (h : AIn Tryd.prog H d 5 a) : ∃ x : D5, a = c5 x ∧ k5 H x := by
  obtain ⟨x, hx⟩ := ain8 (by kernel_rfl) h
  exact ⟨x, hx, trivial⟩
abbrev D50 := Value × List UInt8
def c50 (x : D50) : List Value := [x.1]
def k50 (H : AH) (x : D50) : Prop := SL H x.1 (x.2.map U8) ∧ x.2.length ≤ maxLen
theorem in50 {H : AH} {d : Nat} {a : List Value} (h : AIn Tryd.prog H d 50 a) : ∃ x : D50, a = c50 x ∧ k50 H x := by
  cases d with
  | zero => exact h.elim
  | succ d =>
    unfold AIn at h
    simp only [show Tryd.prog.underlying 50 = some (.slice 5) by kernel_rfl] at h
    rcases h with rfl | rfl | ⟨g, parts, rfl, h0, h1, h2, h3⟩
    · exact ⟨(_, []), rfl, .inl ⟨rfl, rfl⟩, Nat.zero_le _⟩
    · exact ⟨(_, []), rfl, .inr ⟨0, 0, 0, rfl, .inl rfl⟩, Nat.zero_le _⟩
    · obtain ⟨xs, e1, e2⟩ := parts8 (by kernel_rfl) parts (fun p hm => (h3 p hm).1)
      rw [e1] at h2
      exact ⟨(_, xs), rfl, SL.whole _ (AH.cells_ro h2) e2.symm, by rw [e2]; exact h1⟩
theorem arg22 {H : AH} {v : Value} (h : AVal Tryd.prog H 22 v) : ∃ x : D22, [v] = c22 x ∧ k22 H x := by
  unfold AVal at h
  have hT : Tryd.prog.underlying 22 = some (.slice 35) := by kernel_rfl
  simp only [hT] at h
  obtain ⟨d, h⟩ := h
  exact in22 h
theorem arg3 {H : AH} {v : Value} (h : AVal Tryd.prog H 3 v) : ∃ x : D3, [v] = c3 x ∧ k3 H x := by
  unfold AVal at h
  have hT : Tryd.prog.underlying 3 = some (.int .i64) := by kernel_rfl
  simp only [hT] at h
  obtain ⟨d, h⟩ := h
  exact in3 h
theorem arg9 {H : AH} {v : Value} (h : AVal Tryd.prog H 9 v) : ∃ x : D9, [v] = c9 x ∧ k9 H x := by
  unfold AVal at h
  have hT : Tryd.prog.underlying 9 = some .string := by kernel_rfl
  simp only [hT] at h
  obtain ⟨d, h⟩ := h
  exact in9 h
theorem arg49 {H : AH} {v : Value} (h : AVal Tryd.prog H 49 v) : ∃ x : D49, [v] = c49 x ∧ k49 H x := by
  unfold AVal at h
  have hT : Tryd.prog.underlying 49 = some (.slice 84) := by kernel_rfl
  simp only [hT] at h
  obtain ⟨d, h⟩ := h
  exact in49 h
theorem arg50 {H : AH} {v : Value} (h : AVal Tryd.prog H 50 v) : ∃ x : D50, [v] = c50 x ∧ k50 H x := by
  unfold AVal at h
  have hT : Tryd.prog.underlying 50 = some (.slice 5) := by kernel_rfl
  simp only [hT] at h
  obtain ⟨d, h⟩ := h
  exact in50 h
end Go.Proofs.YtldfnfpinemedaaDoor
