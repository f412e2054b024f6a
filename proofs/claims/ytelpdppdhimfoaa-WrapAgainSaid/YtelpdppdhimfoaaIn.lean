/- What the arguments of the laws may be. Written by inp.py. -/
import Derived.Test.YtelpdppdhimfoaaC6
import Derived.Test.YtelpdppdhimfoaaTy
import Derived.KernelRfl
namespace Go.Proofs.Ytelpdppdhimfoaa
open Go Go.RowKit
set_option linter.unusedSimpArgs false
set_option linter.unusedVariables false
set_option maxRecDepth 100000
def SLn (H : AH) (v : Value) (n : Nat) (cells : List Value) : Prop := (v = .slice none 0 0 ∧ cells = [] ∧ n = 0) ∨ ∃ g o e, v = .slice (some ⟨g, o, none⟩) n e ∧ (cells = [] ∧ n = 0 ∨ ∃ cs, H.cells g = some cs ∧ o + cells.length ≤ cs.length ∧ (cs.drop o).take cells.length = cells)
theorem partsG {α : Type} (c : α → List Value) (k : α → Prop) : ∀ parts : List (List Value), (∀ p ∈ parts, ∃ x, p = c x ∧ k x) → ∃ xs : List α, parts.flatten = (xs.map c).flatten ∧ xs.length = parts.length ∧ ∀ x ∈ xs, k x
  | [], _ => ⟨[], rfl, rfl, fun x hx => absurd hx (by simp)⟩
  | p :: r, h => by
    obtain ⟨x, rfl, hx⟩ := h p (by simp)
    obtain ⟨xs, h1, h2, h3⟩ := partsG c k r (fun q hq => h q (by simp [hq]))
    refine ⟨x :: xs, by rw [List.flatten_cons, List.map_cons, List.flatten_cons, h1], by rw [List.length_cons, List.length_cons, h2], fun y hy => ?_⟩
    rcases List.mem_cons.1 hy with rfl | hy
    · exact hx
    · exact h3 y hy
abbrev D5 := UInt8
def c5 (x : D5) : List Value := [U8 x]
def k5 (_ : AH) (_ : D5) : Prop := True
theorem in5 {H : AH} {d : Nat} {a : List Value} (h : AIn Try.prog H d 5 a) : ∃ x : D5, a = c5 x ∧ k5 H x := by
  obtain ⟨x, hx⟩ := ain8 (by kernel_rfl) h
  exact ⟨x, hx, trivial⟩
abbrev D22 := Value × List UInt8
def c22 (x : D22) : List Value := [x.1]
def k22 (H : AH) (x : D22) : Prop := SL H x.1 (x.2.map U8) ∧ x.2.length ≤ maxLen
theorem in22 {H : AH} {d : Nat} {a : List Value} (h : AIn Try.prog H d 22 a) : ∃ x : D22, a = c22 x ∧ k22 H x := by
  cases d with
  | zero => exact h.elim
  | succ d =>
    unfold AIn at h
    simp only [show Try.prog.underlying 22 = some (.slice 5) by kernel_rfl] at h
    rcases h with rfl | rfl | ⟨g, parts, rfl, h0, h1, h2, h3⟩
    · exact ⟨(_, []), rfl, .inl ⟨rfl, rfl⟩, Nat.zero_le _⟩
    · exact ⟨(_, []), rfl, .inr ⟨0, 0, 0, rfl, .inl rfl⟩, Nat.zero_le _⟩
    · obtain ⟨xs, e1, e2⟩ := parts8 (by kernel_rfl) parts (fun p hm => (h3 p hm).1)
      rw [e1] at h2
      exact ⟨(_, xs), rfl, SL.whole _ (AH.cells_ro h2) e2.symm, by rw [e2]; exact h1⟩
abbrev D3 := Int
def c3 (x : D3) : List Value := [.int .i64 x]
def k3 (_ : AH) (x : D3) : Prop := -9223372036854775808 ≤ x ∧ x ≤ 9223372036854775807
theorem in3 {H : AH} {d : Nat} {a : List Value} (h : AIn Try.prog H d 3 a) : ∃ x : D3, a = c3 x ∧ k3 H x := by
  cases d with
  | zero => exact h.elim
  | succ d =>
    unfold AIn at h
    simp only [show Try.prog.underlying 3 = some (.int .i64) by kernel_rfl] at h
    obtain ⟨n, rfl, hw⟩ := h
    have h1 : IntKind.i64.min = -9223372036854775808 := by decide
    have h2 : IntKind.i64.max = 9223372036854775807 := by decide
    simp only [Lit.wf, h1, h2, Bool.and_eq_true, decide_eq_true_eq] at hw
    exact ⟨n, rfl, hw⟩
abbrev D24 := D22 × D22 × D3 × D3
def c24 (x : D24) : List Value := (c22 x.1 ++ (c22 x.2.1 ++ (c3 x.2.2.1 ++ c3 x.2.2.2)))
def k24 (H : AH) (x : D24) : Prop := k22 H x.1 ∧ k22 H x.2.1 ∧ k3 H x.2.2.1 ∧ k3 H x.2.2.2
theorem in24 {H : AH} {d : Nat} {a : List Value} (h : AIn Try.prog H d 24 a) : ∃ x : D24, a = c24 x ∧ k24 H x := by
  cases d with
  | zero => exact h.elim
  | succ d =>
    unfold AIn at h
    have hT : Try.prog.underlying 24 = some (.struct #[{ name := "Pass", type := 22, offset := 0, embedded := false, tag := "", pkgPath := "", byteOffset := 0 }, { name := "Salt", type := 22, offset := 1, embedded := false, tag := "", pkgPath := "", byteOffset := 24 }, { name := "Rounds", type := 3, offset := 2, embedded := false, tag := "", pkgPath := "", byteOffset := 48 }, { name := "Size", type := 3, offset := 3, embedded := false, tag := "", pkgPath := "", byteOffset := 56 }]) := by kernel_rfl
    simp only [hT] at h
    obtain ⟨parts, rfl, hl, hp⟩ := h
    match parts, hl with
    | [p0, p1, p2, p3], _ =>
    obtain ⟨x0, e0, y0⟩ := in22 (hp 0 _ p0 rfl rfl).1
    obtain ⟨x1, e1, y1⟩ := in22 (hp 1 _ p1 rfl rfl).1
    obtain ⟨x2, e2, y2⟩ := in3 (hp 2 _ p2 rfl rfl).1
    obtain ⟨x3, e3, y3⟩ := in3 (hp 3 _ p3 rfl rfl).1
    exact ⟨(x0, x1, x2, x3), by simp only [List.flatten_cons, List.flatten_nil, List.append_nil, e0, e1, e2, e3, c24], y0, y1, y2, y3⟩
abbrev D34 := UInt32
def c34 (x : D34) : List Value := [U32 x]
def k34 (_ : AH) (_ : D34) : Prop := True
theorem in34 {H : AH} {d : Nat} {a : List Value} (h : AIn Try.prog H d 34 a) : ∃ x : D34, a = c34 x ∧ k34 H x := by
  obtain ⟨x, hx⟩ := ain32 (by kernel_rfl) h
  exact ⟨x, hx, trivial⟩
abbrev D35 := List UInt8
def c35 (x : D35) : List Value := x.map U8
def k35 (_ : AH) (x : D35) : Prop := x.length = 32
theorem in35 {H : AH} {d : Nat} {a : List Value} (h : AIn Try.prog H d 35 a) : ∃ x : D35, a = c35 x ∧ k35 H x := by
  cases d with
  | zero => exact h.elim
  | succ d =>
    unfold AIn at h
    simp only [show Try.prog.underlying 35 = some (.array 32 5) by kernel_rfl] at h
    obtain ⟨parts, rfl, hl, hp⟩ := h
    obtain ⟨xs, h1, h2⟩ := parts8 (by kernel_rfl) parts (fun p hm => (hp p hm).1)
    exact ⟨xs, h1, by rw [k35, h2, hl]⟩
abbrev D36 := List D35
def c36 (x : D36) : List Value := (x.map c35).flatten
def k36 (H : AH) (x : D36) : Prop := x.length = 2 ∧ ∀ y ∈ x, k35 H y
theorem in36 {H : AH} {d : Nat} {a : List Value} (h : AIn Try.prog H d 36 a) : ∃ x : D36, a = c36 x ∧ k36 H x := by
  cases d with
  | zero => exact h.elim
  | succ d =>
    unfold AIn at h
    simp only [show Try.prog.underlying 36 = some (.array 2 35) by kernel_rfl] at h
    obtain ⟨parts, rfl, hl, hp⟩ := h
    obtain ⟨xs, h1, h2, h3⟩ := partsG c35 (k35 H) parts (fun p hm => in35 (hp p hm).1)
    exact ⟨xs, by rw [h1, c36], by rw [h2, hl], h3⟩
abbrev D42 := List UInt8
def c42 (x : D42) : List Value := x.map U8
def k42 (_ : AH) (x : D42) : Prop := x.length = 16
theorem in42 {H : AH} {d : Nat} {a : List Value} (h : AIn Try.prog H d 42 a) : ∃ x : D42, a = c42 x ∧ k42 H x := by
  cases d with
  | zero => exact h.elim
  | succ d =>
    unfold AIn at h
    simp only [show Try.prog.underlying 42 = some (.array 16 5) by kernel_rfl] at h
    obtain ⟨parts, rfl, hl, hp⟩ := h
    obtain ⟨xs, h1, h2⟩ := parts8 (by kernel_rfl) parts (fun p hm => (hp p hm).1)
    exact ⟨xs, h1, by rw [k42, h2, hl]⟩
abbrev D44 := D22 × D42 × D3 × D35
def c44 (x : D44) : List Value := (c22 x.1 ++ (c42 x.2.1 ++ (c3 x.2.2.1 ++ c35 x.2.2.2)))
def k44 (H : AH) (x : D44) : Prop := k22 H x.1 ∧ k42 H x.2.1 ∧ k3 H x.2.2.1 ∧ k35 H x.2.2.2
theorem in44 {H : AH} {d : Nat} {a : List Value} (h : AIn Try.prog H d 44 a) : ∃ x : D44, a = c44 x ∧ k44 H x := by
  cases d with
  | zero => exact h.elim
  | succ d =>
    unfold AIn at h
    have hT : Try.prog.underlying 44 = some (.struct #[{ name := "Pass", type := 22, offset := 0, embedded := false, tag := "", pkgPath := "", byteOffset := 0 }, { name := "Salt", type := 42, offset := 1, embedded := false, tag := "", pkgPath := "", byteOffset := 24 }, { name := "Rounds", type := 3, offset := 17, embedded := false, tag := "", pkgPath := "", byteOffset := 40 }, { name := "Master", type := 35, offset := 18, embedded := false, tag := "", pkgPath := "", byteOffset := 48 }]) := by kernel_rfl
    simp only [hT] at h
    obtain ⟨parts, rfl, hl, hp⟩ := h
    match parts, hl with
    | [p0, p1, p2, p3], _ =>
    obtain ⟨x0, e0, y0⟩ := in22 (hp 0 _ p0 rfl rfl).1
    obtain ⟨x1, e1, y1⟩ := in42 (hp 1 _ p1 rfl rfl).1
    obtain ⟨x2, e2, y2⟩ := in3 (hp 2 _ p2 rfl rfl).1
    obtain ⟨x3, e3, y3⟩ := in35 (hp 3 _ p3 rfl rfl).1
    exact ⟨(x0, x1, x2, x3), by simp only [List.flatten_cons, List.flatten_nil, List.append_nil, e0, e1, e2, e3, c44], y0, y1, y2, y3⟩
abbrev D50 := D42 × D3 × D35 × D35
def c50 (x : D50) : List Value := (c42 x.1 ++ (c3 x.2.1 ++ (c35 x.2.2.1 ++ c35 x.2.2.2)))
def k50 (H : AH) (x : D50) : Prop := k42 H x.1 ∧ k3 H x.2.1 ∧ k35 H x.2.2.1 ∧ k35 H x.2.2.2
theorem in50 {H : AH} {d : Nat} {a : List Value} (h : AIn Try.prog H d 50 a) : ∃ x : D50, a = c50 x ∧ k50 H x := by
  cases d with
  | zero => exact h.elim
  | succ d =>
    unfold AIn at h
    have hT : Try.prog.underlying 50 = some (.struct #[{ name := "Salt", type := 42, offset := 0, embedded := false, tag := "", pkgPath := "", byteOffset := 0 }, { name := "Rounds", type := 3, offset := 16, embedded := false, tag := "", pkgPath := "", byteOffset := 16 }, { name := "Key", type := 35, offset := 17, embedded := false, tag := "", pkgPath := "", byteOffset := 24 }, { name := "Check", type := 35, offset := 49, embedded := false, tag := "", pkgPath := "", byteOffset := 56 }]) := by kernel_rfl
    simp only [hT] at h
    obtain ⟨parts, rfl, hl, hp⟩ := h
    match parts, hl with
    | [p0, p1, p2, p3], _ =>
    obtain ⟨x0, e0, y0⟩ := in42 (hp 0 _ p0 rfl rfl).1
    obtain ⟨x1, e1, y1⟩ := in3 (hp 1 _ p1 rfl rfl).1
    obtain ⟨x2, e2, y2⟩ := in35 (hp 2 _ p2 rfl rfl).1
    obtain ⟨x3, e3, y3⟩ := in35 (hp 3 _ p3 rfl rfl).1
    exact ⟨(x0, x1, x2, x3), by simp only [List.flatten_cons, List.flatten_nil, List.append_nil, e0, e1, e2, e3, c50], y0, y1, y2, y3⟩
theorem arg24 {H : AH} {v : Value} (h : AVal Try.prog H 24 v) : ∃ x : D24, v = .agg (c24 x).toArray ∧ k24 H x := by
  unfold AVal at h
  have hT : Try.prog.underlying 24 = some (.struct #[{ name := "Pass", type := 22, offset := 0, embedded := false, tag := "", pkgPath := "", byteOffset := 0 }, { name := "Salt", type := 22, offset := 1, embedded := false, tag := "", pkgPath := "", byteOffset := 24 }, { name := "Rounds", type := 3, offset := 2, embedded := false, tag := "", pkgPath := "", byteOffset := 48 }, { name := "Size", type := 3, offset := 3, embedded := false, tag := "", pkgPath := "", byteOffset := 56 }]) := by kernel_rfl
  simp only [hT] at h
  obtain ⟨acs, d, rfl, h⟩ := h
  obtain ⟨x, rfl, hk⟩ := in24 h
  exact ⟨x, rfl, hk⟩
theorem arg34 {H : AH} {v : Value} (h : AVal Try.prog H 34 v) : ∃ x : D34, [v] = c34 x ∧ k34 H x := by
  unfold AVal at h
  have hT : Try.prog.underlying 34 = some (.int .u32) := by kernel_rfl
  simp only [hT] at h
  obtain ⟨d, h⟩ := h
  exact in34 h
theorem arg36 {H : AH} {v : Value} (h : AVal Try.prog H 36 v) : ∃ x : D36, v = .agg (c36 x).toArray ∧ k36 H x := by
  unfold AVal at h
  have hT : Try.prog.underlying 36 = some (.array 2 35) := by kernel_rfl
  simp only [hT] at h
  obtain ⟨acs, d, rfl, h⟩ := h
  obtain ⟨x, rfl, hk⟩ := in36 h
  exact ⟨x, rfl, hk⟩
theorem arg5 {H : AH} {v : Value} (h : AVal Try.prog H 5 v) : ∃ x : D5, [v] = c5 x ∧ k5 H x := by
  unfold AVal at h
  have hT : Try.prog.underlying 5 = some (.int .u8) := by kernel_rfl
  simp only [hT] at h
  obtain ⟨d, h⟩ := h
  exact in5 h
theorem arg44 {H : AH} {v : Value} (h : AVal Try.prog H 44 v) : ∃ x : D44, v = .agg (c44 x).toArray ∧ k44 H x := by
  unfold AVal at h
  have hT : Try.prog.underlying 44 = some (.struct #[{ name := "Pass", type := 22, offset := 0, embedded := false, tag := "", pkgPath := "", byteOffset := 0 }, { name := "Salt", type := 42, offset := 1, embedded := false, tag := "", pkgPath := "", byteOffset := 24 }, { name := "Rounds", type := 3, offset := 17, embedded := false, tag := "", pkgPath := "", byteOffset := 40 }, { name := "Master", type := 35, offset := 18, embedded := false, tag := "", pkgPath := "", byteOffset := 48 }]) := by kernel_rfl
  simp only [hT] at h
  obtain ⟨acs, d, rfl, h⟩ := h
  obtain ⟨x, rfl, hk⟩ := in44 h
  exact ⟨x, rfl, hk⟩
theorem arg22 {H : AH} {v : Value} (h : AVal Try.prog H 22 v) : ∃ x : D22, [v] = c22 x ∧ k22 H x := by
  unfold AVal at h
  have hT : Try.prog.underlying 22 = some (.slice 5) := by kernel_rfl
  simp only [hT] at h
  obtain ⟨d, h⟩ := h
  exact in22 h
theorem arg50 {H : AH} {v : Value} (h : AVal Try.prog H 50 v) : ∃ x : D50, v = .agg (c50 x).toArray ∧ k50 H x := by
  unfold AVal at h
  have hT : Try.prog.underlying 50 = some (.struct #[{ name := "Salt", type := 42, offset := 0, embedded := false, tag := "", pkgPath := "", byteOffset := 0 }, { name := "Rounds", type := 3, offset := 16, embedded := false, tag := "", pkgPath := "", byteOffset := 16 }, { name := "Key", type := 35, offset := 17, embedded := false, tag := "", pkgPath := "", byteOffset := 24 }, { name := "Check", type := 35, offset := 49, embedded := false, tag := "", pkgPath := "", byteOffset := 56 }]) := by kernel_rfl
  simp only [hT] at h
  obtain ⟨acs, d, rfl, h⟩ := h
  obtain ⟨x, rfl, hk⟩ := in50 h
  exact ⟨x, rfl, hk⟩
theorem arg42 {H : AH} {v : Value} (h : AVal Try.prog H 42 v) : ∃ x : D42, v = .agg (c42 x).toArray ∧ k42 H x := by
  unfold AVal at h
  have hT : Try.prog.underlying 42 = some (.array 16 5) := by kernel_rfl
  simp only [hT] at h
  obtain ⟨acs, d, rfl, h⟩ := h
  obtain ⟨x, rfl, hk⟩ := in42 h
  exact ⟨x, rfl, hk⟩
end Go.Proofs.Ytelpdppdhimfoaa
