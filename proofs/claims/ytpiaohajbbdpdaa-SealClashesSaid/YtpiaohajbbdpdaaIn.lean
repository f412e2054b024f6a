/- What the arguments of the laws may be. Written by inp.py. -/
import Derived.Test.YtpiaohajbbdpdaaC6
import Derived.Test.YtpiaohajbbdpdaaTy
import Derived.KernelRfl
namespace Go.Proofs.Ytpiaohajbbdpdaa
open Go Go.RowKit
set_option linter.unusedSimpArgs false
set_option linter.unusedVariables false
set_option maxRecDepth 100000
def SLn (H : AH) (v : Value) (n : Nat) (cells : List Value) : Prop := (v = .slice none 0 0 ∧ cells = [] ∧ n = 0) ∨ ∃ g o e, v = .slice (some ⟨g, o, none⟩) n e ∧ (cells = [] ∧ n = 0 ∨ ∃ cs, H.cells g = some cs ∧ o + cells.length ≤ cs.length ∧ (cs.drop o).take cells.length = cells)
theorem partsG {α : Type} (c : α → List Value) (k : α → Prop) : ∀ parts : List (List Value), (∀ p ∈ parts, ∃ x, p = c x ∧ k x) → ∃ xs : List α, parts.flatten = (xs.map c).flatten ∧ xs.length = parts.length ∧ ∀ x ∈ xs, k x
  | [], _ => ⟨[], rfl, rfl, fun x hx => absurd hx (by simp)⟩
  | p :: r, h => by
    obtain ⟨x, rfl, hx⟩ := h p (by simp)
    obtain ⟨xs, h1, h2, h3⟩ := partsG c k r (fun q hq => h q (by simp [hq]))
    refine ⟨x :: xs, by rw [List.flatten_cons, List.map_cons, List.flatten_cons, h1], by rw [List.length_cons, List.length_cons, h2], fun y hy => ?_⟩
    rcases List.mem_cons.1 hy with rfl | hy
    · exact hx
    · exact h3 y hy
abbrev D5 := UInt8
def c5 (x : D5) : List Value := [U8 x]
def k5 (_ : AH) (_ : D5) : Prop := True
theorem in5 {H : AH} {d : Nat} {a : List Value} (h : AIn Try.prog H d 5 a) : ∃ x : D5, a = c5 x ∧ k5 H x := by
  obtain ⟨x, hx⟩ := ain8 (by kernel_rfl) h
  exact ⟨x, hx, trivial⟩
abbrev D22 := List UInt8
def c22 (x : D22) : List Value := x.map U8
def k22 (_ : AH) (x : D22) : Prop := x.length = 32
theorem in22 {H : AH} {d : Nat} {a : List Value} (h : AIn Try.prog H d 22 a) : ∃ x : D22, a = c22 x ∧ k22 H x := by
  cases d with
  | zero => exact h.elim
  | succ d =>
    unfold AIn at h
    simp only [show Try.prog.underlying 22 = some (.array 32 5) by kernel_rfl] at h
    obtain ⟨parts, rfl, hl, hp⟩ := h
    obtain ⟨xs, h1, h2⟩ := parts8 (by kernel_rfl) parts (fun p hm => (hp p hm).1)
    exact ⟨xs, h1, by rw [k22, h2, hl]⟩
abbrev D23 := UInt32
def c23 (x : D23) : List Value := [U32 x]
def k23 (_ : AH) (_ : D23) : Prop := True
theorem in23 {H : AH} {d : Nat} {a : List Value} (h : AIn Try.prog H d 23 a) : ∃ x : D23, a = c23 x ∧ k23 H x := by
  obtain ⟨x, hx⟩ := ain32 (by kernel_rfl) h
  exact ⟨x, hx, trivial⟩
abbrev D3 := Int
def c3 (x : D3) : List Value := [.int .i64 x]
def k3 (_ : AH) (x : D3) : Prop := -9223372036854775808 ≤ x ∧ x ≤ 9223372036854775807
theorem in3 {H : AH} {d : Nat} {a : List Value} (h : AIn Try.prog H d 3 a) : ∃ x : D3, a = c3 x ∧ k3 H x := by
  cases d with
  | zero => exact h.elim
  | succ d =>
    unfold AIn at h
    simp only [show Try.prog.underlying 3 = some (.int .i64) by kernel_rfl] at h
    obtain ⟨n, rfl, hw⟩ := h
    have h1 : IntKind.i64.min = -9223372036854775808 := by decide
    have h2 : IntKind.i64.max = 9223372036854775807 := by decide
    simp only [Lit.wf, h1, h2, Bool.and_eq_true, decide_eq_true_eq] at hw
    exact ⟨n, rfl, hw⟩
abbrev D25 := D22 × D23 × D3 × D3
def c25 (x : D25) : List Value := (c22 x.1 ++ (c23 x.2.1 ++ (c3 x.2.2.1 ++ c3 x.2.2.2)))
def k25 (H : AH) (x : D25) : Prop := k22 H x.1 ∧ k23 H x.2.1 ∧ k3 H x.2.2.1 ∧ k3 H x.2.2.2
theorem in25 {H : AH} {d : Nat} {a : List Value} (h : AIn Try.prog H d 25 a) : ∃ x : D25, a = c25 x ∧ k25 H x := by
  cases d with
  | zero => exact h.elim
  | succ d =>
    unfold AIn at h
    have hT : Try.prog.underlying 25 = some (.struct #[{ name := "Key", type := 22, offset := 0, embedded := false, tag := "", pkgPath := "", byteOffset := 0 }, { name := "Epoch", type := 23, offset := 32, embedded := false, tag := "", pkgPath := "", byteOffset := 32 }, { name := "Place", type := 3, offset := 33, embedded := false, tag := "", pkgPath := "", byteOffset := 40 }, { name := "Block", type := 3, offset := 34, embedded := false, tag := "", pkgPath := "", byteOffset := 48 }]) := by kernel_rfl
    simp only [hT] at h
    obtain ⟨parts, rfl, hl, hp⟩ := h
    match parts, hl with
    | [p0, p1, p2, p3], _ =>
    obtain ⟨x0, e0, y0⟩ := in22 (hp 0 _ p0 rfl rfl).1
    obtain ⟨x1, e1, y1⟩ := in23 (hp 1 _ p1 rfl rfl).1
    obtain ⟨x2, e2, y2⟩ := in3 (hp 2 _ p2 rfl rfl).1
    obtain ⟨x3, e3, y3⟩ := in3 (hp 3 _ p3 rfl rfl).1
    exact ⟨(x0, x1, x2, x3), by simp only [List.flatten_cons, List.flatten_nil, List.append_nil, e0, e1, e2, e3, c25], y0, y1, y2, y3⟩
abbrev D26 := Value × List UInt8
def c26 (x : D26) : List Value := [x.1]
def k26 (H : AH) (x : D26) : Prop := SL H x.1 (x.2.map U8) ∧ x.2.length ≤ maxLen
theorem in26 {H : AH} {d : Nat} {a : List Value} (h : AIn Try.prog H d 26 a) : ∃ x : D26, a = c26 x ∧ k26 H x := by
  cases d with
  | zero => exact h.elim
  | succ d =>
    unfold AIn at h
    simp only [show Try.prog.underlying 26 = some (.slice 5) by kernel_rfl] at h
    rcases h with rfl | rfl | ⟨g, parts, rfl, h0, h1, h2, h3⟩
    · exact ⟨(_, []), rfl, .inl ⟨rfl, rfl⟩, Nat.zero_le _⟩
    · exact ⟨(_, []), rfl, .inr ⟨0, 0, 0, rfl, .inl rfl⟩, Nat.zero_le _⟩
    · obtain ⟨xs, e1, e2⟩ := parts8 (by kernel_rfl) parts (fun p hm => (h3 p hm).1)
      rw [e1] at h2
      exact ⟨(_, xs), rfl, SL.whole _ (AH.cells_ro h2) e2.symm, by rw [e2]; exact h1⟩
abbrev D4 := Bool
def c4 (x : D4) : List Value := [.bool x]
def k4 (_ : AH) (_ : D4) : Prop := True
theorem in4 {H : AH} {d : Nat} {a : List Value} (h : AIn Try.prog H d 4 a) : ∃ x : D4, a = c4 x ∧ k4 H x := by
  cases d with
  | zero => exact h.elim
  | succ d =>
    unfold AIn at h
    simp only [show Try.prog.underlying 4 = some .bool by kernel_rfl] at h
    obtain ⟨n, rfl⟩ := h
    exact ⟨n, rfl, trivial⟩
abbrev D38 := D3 × D23 × D22
def c38 (x : D38) : List Value := (c3 x.1 ++ (c23 x.2.1 ++ c22 x.2.2))
def k38 (H : AH) (x : D38) : Prop := k3 H x.1 ∧ k23 H x.2.1 ∧ k22 H x.2.2
theorem in38 {H : AH} {d : Nat} {a : List Value} (h : AIn Try.prog H d 38 a) : ∃ x : D38, a = c38 x ∧ k38 H x := by
  cases d with
  | zero => exact h.elim
  | succ d =>
    unfold AIn at h
    have hT : Try.prog.underlying 38 = some (.struct #[{ name := "Place", type := 3, offset := 0, embedded := false, tag := "", pkgPath := "", byteOffset := 0 }, { name := "Epoch", type := 23, offset := 1, embedded := false, tag := "", pkgPath := "", byteOffset := 8 }, { name := "Digest", type := 22, offset := 2, embedded := false, tag := "", pkgPath := "", byteOffset := 12 }]) := by kernel_rfl
    simp only [hT] at h
    obtain ⟨parts, rfl, hl, hp⟩ := h
    match parts, hl with
    | [p0, p1, p2], _ =>
    obtain ⟨x0, e0, y0⟩ := in3 (hp 0 _ p0 rfl rfl).1
    obtain ⟨x1, e1, y1⟩ := in23 (hp 1 _ p1 rfl rfl).1
    obtain ⟨x2, e2, y2⟩ := in22 (hp 2 _ p2 rfl rfl).1
    exact ⟨(x0, x1, x2), by simp only [List.flatten_cons, List.flatten_nil, List.append_nil, e0, e1, e2, c38], y0, y1, y2⟩
abbrev D49 := UInt16
def c49 (x : D49) : List Value := [U16 x]
def k49 (_ : AH) (_ : D49) : Prop := True
theorem in49 {H : AH} {d : Nat} {a : List Value} (h : AIn Try.prog H d 49 a) : ∃ x : D49, a = c49 x ∧ k49 H x := by
  obtain ⟨x, hx⟩ := ain16 (by kernel_rfl) h
  exact ⟨x, hx, trivial⟩
abbrev D44 := Value × List D26
def c44 (x : D44) : List Value := [x.1]
def k44 (H : AH) (x : D44) : Prop := SLn H x.1 x.2.length ((x.2.map c26).flatten) ∧ x.2.length ≤ maxLen ∧ ∀ y ∈ x.2, k26 H y
theorem in44 {H : AH} {d : Nat} {a : List Value} (h : AIn Try.prog H d 44 a) : ∃ x : D44, a = c44 x ∧ k44 H x := by
  cases d with
  | zero => exact h.elim
  | succ d =>
    unfold AIn at h
    simp only [show Try.prog.underlying 44 = some (.slice 26) by kernel_rfl] at h
    rcases h with rfl | rfl | ⟨g, parts, rfl, h0, h1, h2, h3⟩
    · exact ⟨(_, []), rfl, .inl ⟨rfl, rfl, rfl⟩, Nat.zero_le _, fun y hy => absurd hy (by simp)⟩
    · exact ⟨(_, []), rfl, .inr ⟨0, 0, 0, rfl, .inl ⟨rfl, rfl⟩⟩, Nat.zero_le _, fun y hy => absurd hy (by simp)⟩
    · obtain ⟨xs, e1, e2, e3⟩ := partsG c26 (k26 H) parts (fun p hm => in26 (h3 p hm).1)
      rw [e1] at h2
      refine ⟨(_, xs), rfl, .inr ⟨g, 0, 0, ?_, .inr ⟨_, AH.cells_ro h2, ?_, ?_⟩⟩, by rw [e2]; exact h1, e3⟩
      · rw [e2]
      · rw [Nat.zero_add]; exact Nat.le_refl _
      · rw [List.drop_zero]; exact List.take_of_length_le (Nat.le_refl _)
theorem arg25 {H : AH} {v : Value} (h : AVal Try.prog H 25 v) : ∃ x : D25, v = .agg (c25 x).toArray ∧ k25 H x := by
  unfold AVal at h
  have hT : Try.prog.underlying 25 = some (.struct #[{ name := "Key", type := 22, offset := 0, embedded := false, tag := "", pkgPath := "", byteOffset := 0 }, { name := "Epoch", type := 23, offset := 32, embedded := false, tag := "", pkgPath := "", byteOffset := 32 }, { name := "Place", type := 3, offset := 33, embedded := false, tag := "", pkgPath := "", byteOffset := 40 }, { name := "Block", type := 3, offset := 34, embedded := false, tag := "", pkgPath := "", byteOffset := 48 }]) := by kernel_rfl
  simp only [hT] at h
  obtain ⟨acs, d, rfl, h⟩ := h
  obtain ⟨x, rfl, hk⟩ := in25 h
  exact ⟨x, rfl, hk⟩
theorem arg26 {H : AH} {v : Value} (h : AVal Try.prog H 26 v) : ∃ x : D26, [v] = c26 x ∧ k26 H x := by
  unfold AVal at h
  have hT : Try.prog.underlying 26 = some (.slice 5) := by kernel_rfl
  simp only [hT] at h
  obtain ⟨d, h⟩ := h
  exact in26 h
theorem arg4 {H : AH} {v : Value} (h : AVal Try.prog H 4 v) : ∃ x : D4, [v] = c4 x ∧ k4 H x := by
  unfold AVal at h
  have hT : Try.prog.underlying 4 = some .bool := by kernel_rfl
  simp only [hT] at h
  obtain ⟨d, h⟩ := h
  exact in4 h
theorem arg38 {H : AH} {v : Value} (h : AVal Try.prog H 38 v) : ∃ x : D38, v = .agg (c38 x).toArray ∧ k38 H x := by
  unfold AVal at h
  have hT : Try.prog.underlying 38 = some (.struct #[{ name := "Place", type := 3, offset := 0, embedded := false, tag := "", pkgPath := "", byteOffset := 0 }, { name := "Epoch", type := 23, offset := 1, embedded := false, tag := "", pkgPath := "", byteOffset := 8 }, { name := "Digest", type := 22, offset := 2, embedded := false, tag := "", pkgPath := "", byteOffset := 12 }]) := by kernel_rfl
  simp only [hT] at h
  obtain ⟨acs, d, rfl, h⟩ := h
  obtain ⟨x, rfl, hk⟩ := in38 h
  exact ⟨x, rfl, hk⟩
theorem arg49 {H : AH} {v : Value} (h : AVal Try.prog H 49 v) : ∃ x : D49, [v] = c49 x ∧ k49 H x := by
  unfold AVal at h
  have hT : Try.prog.underlying 49 = some (.int .u16) := by kernel_rfl
  simp only [hT] at h
  obtain ⟨d, h⟩ := h
  exact in49 h
theorem arg44 {H : AH} {v : Value} (h : AVal Try.prog H 44 v) : ∃ x : D44, [v] = c44 x ∧ k44 H x := by
  unfold AVal at h
  have hT : Try.prog.underlying 44 = some (.slice 26) := by kernel_rfl
  simp only [hT] at h
  obtain ⟨d, h⟩ := h
  exact in44 h
end Go.Proofs.Ytpiaohajbbdpdaa
