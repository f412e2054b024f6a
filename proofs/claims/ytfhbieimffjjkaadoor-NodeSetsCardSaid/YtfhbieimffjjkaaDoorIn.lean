/- What the arguments of the laws may be. Written by inp.py. -/
import Derived.Test.YtfhbieimffjjkaaDoorC6
import Derived.Test.YtfhbieimffjjkaaDoorTy
import Derived.KernelRfl
namespace Go.Proofs.YtfhbieimffjjkaaDoor
open Go Go.RowKit
set_option linter.unusedSimpArgs false
set_option linter.unusedVariables false
set_option maxRecDepth 100000
def SLn (H : AH) (v : Value) (n : Nat) (cells : List Value) : Prop := (v = .slice none 0 0 ∧ cells = [] ∧ n = 0) ∨ ∃ g o e, v = .slice (some ⟨g, o, none⟩) n e ∧ (cells = [] ∧ n = 0 ∨ ∃ cs, H.cells g = some cs ∧ o + cells.length ≤ cs.length ∧ (cs.drop o).take cells.length = cells)
theorem partsG {α : Type} (c : α → List Value) (k : α → Prop) : ∀ parts : List (List Value), (∀ p ∈ parts, ∃ x, p = c x ∧ k x) → ∃ xs : List α, parts.flatten = (xs.map c).flatten ∧ xs.length = parts.length ∧ ∀ x ∈ xs, k x
  | [], _ => ⟨[], rfl, rfl, fun x hx => absurd hx (by simp)⟩
  | p :: r, h => by
    obtain ⟨x, rfl, hx⟩ := h p (by simp)
    obtain ⟨xs, h1, h2, h3⟩ := partsG c k r (fun q hq => h q (by simp [hq]))
    refine ⟨x :: xs, by rw [List.flatten_cons, List.map_cons, List.flatten_cons, h1], by rw [List.length_cons, List.length_cons, h2], fun y hy => ?_⟩
    rcases List.mem_cons.1 hy with rfl | hy
    · exact hx
    · exact h3 y hy
abbrev D5 := UInt8
def c5 (x : D5) : List Value := [U8 x]
def k5 (_ : AH) (_ : D5) : Prop := True
theorem in5 {H : AH} {d : Nat} {a : List Value} (h : AIn Tryd.prog H d 5 a) : ∃ x : D5, a = c5 x ∧ k5 H x := by
  obtain ⟨x, hx⟩ := ain8 (by kernel_rfl) h
  exact ⟨x, hx, trivial⟩
abbrev D22 := Value × List UInt8
def c22 (x : D22) : List Value := [x.1]
def k22 (H : AH) (x : D22) : Prop := SL H x.1 (x.2.map U8) ∧ x.2.length ≤ maxLen
theorem in22 {H : AH} {d : Nat} {a : List Value} (h : AIn Tryd.prog H d 22 a) : ∃ x : D22, a = c22 x ∧ k22 H x := by
  cases d with
  | zero => exact h.elim
  | succ d =>
    unfold AIn at h
    simp only [show Tryd.prog.underlying 22 = some (.slice 5) by kernel_rfl] at h
    rcases h with rfl | rfl | ⟨g, parts, rfl, h0, h1, h2, h3⟩
    · exact ⟨(_, []), rfl, .inl ⟨rfl, rfl⟩, Nat.zero_le _⟩
    · exact ⟨(_, []), rfl, .inr ⟨0, 0, 0, rfl, .inl rfl⟩, Nat.zero_le _⟩
    · obtain ⟨xs, e1, e2⟩ := parts8 (by kernel_rfl) parts (fun p hm => (h3 p hm).1)
      rw [e1] at h2
      exact ⟨(_, xs), rfl, SL.whole _ (AH.cells_ro h2) e2.symm, by rw [e2]; exact h1⟩
abbrev D3 := Int
def c3 (x : D3) : List Value := [.int .i64 x]
def k3 (_ : AH) (x : D3) : Prop := -9223372036854775808 ≤ x ∧ x ≤ 9223372036854775807
theorem in3 {H : AH} {d : Nat} {a : List Value} (h : AIn Tryd.prog H d 3 a) : ∃ x : D3, a = c3 x ∧ k3 H x := by
  cases d with
  | zero => exact h.elim
  | succ d =>
    unfold AIn at h
    simp only [show Tryd.prog.underlying 3 = some (.int .i64) by kernel_rfl] at h
    obtain ⟨n, rfl, hw⟩ := h
    have h1 : IntKind.i64.min = -9223372036854775808 := by decide
    have h2 : IntKind.i64.max = 9223372036854775807 := by decide
    simp only [Lit.wf, h1, h2, Bool.and_eq_true, decide_eq_true_eq] at hw
    exact ⟨n, rfl, hw⟩
abbrev D31 := UInt64
def c31 (x : D31) : List Value := [U64 x]
def k31 (_ : AH) (_ : D31) : Prop := True
theorem in31 {H : AH} {d : Nat} {a : List Value} (h : AIn Tryd.prog H d 31 a) : ∃ x : D31, a = c31 x ∧ k31 H x := by
  obtain ⟨x, hx⟩ := ain64 (by kernel_rfl) h
  exact ⟨x, hx, trivial⟩
abbrev D33 := D5 × D3 × D31
def c33 (x : D33) : List Value := (c5 x.1 ++ (c3 x.2.1 ++ c31 x.2.2))
def k33 (H : AH) (x : D33) : Prop := k5 H x.1 ∧ k3 H x.2.1 ∧ k31 H x.2.2
theorem in33 {H : AH} {d : Nat} {a : List Value} (h : AIn Tryd.prog H d 33 a) : ∃ x : D33, a = c33 x ∧ k33 H x := by
  cases d with
  | zero => exact h.elim
  | succ d =>
    unfold AIn at h
    have hT : Tryd.prog.underlying 33 = some (.struct #[{ name := "Kind", type := 5, offset := 0, embedded := false, tag := "", pkgPath := "", byteOffset := 0 }, { name := "Size", type := 3, offset := 1, embedded := false, tag := "", pkgPath := "", byteOffset := 8 }, { name := "Most", type := 31, offset := 2, embedded := false, tag := "", pkgPath := "", byteOffset := 16 }]) := by kernel_rfl
    simp only [hT] at h
    obtain ⟨parts, rfl, hl, hp⟩ := h
    match parts, hl with
    | [p0, p1, p2], _ =>
    obtain ⟨x0, e0, y0⟩ := in5 (hp 0 _ p0 rfl rfl).1
    obtain ⟨x1, e1, y1⟩ := in3 (hp 1 _ p1 rfl rfl).1
    obtain ⟨x2, e2, y2⟩ := in31 (hp 2 _ p2 rfl rfl).1
    exact ⟨(x0, x1, x2), by simp only [List.flatten_cons, List.flatten_nil, List.append_nil, e0, e1, e2, c33], y0, y1, y2⟩
abbrev D23 := Value × List D33
def c23 (x : D23) : List Value := [x.1]
def k23 (H : AH) (x : D23) : Prop := SLn H x.1 x.2.length ((x.2.map c33).flatten) ∧ x.2.length ≤ maxLen ∧ ∀ y ∈ x.2, k33 H y
theorem in23 {H : AH} {d : Nat} {a : List Value} (h : AIn Tryd.prog H d 23 a) : ∃ x : D23, a = c23 x ∧ k23 H x := by
  cases d with
  | zero => exact h.elim
  | succ d =>
    unfold AIn at h
    simp only [show Tryd.prog.underlying 23 = some (.slice 33) by kernel_rfl] at h
    rcases h with rfl | rfl | ⟨g, parts, rfl, h0, h1, h2, h3⟩
    · exact ⟨(_, []), rfl, .inl ⟨rfl, rfl, rfl⟩, Nat.zero_le _, fun y hy => absurd hy (by simp)⟩
    · exact ⟨(_, []), rfl, .inr ⟨0, 0, 0, rfl, .inl ⟨rfl, rfl⟩⟩, Nat.zero_le _, fun y hy => absurd hy (by simp)⟩
    · obtain ⟨xs, e1, e2, e3⟩ := partsG c33 (k33 H) parts (fun p hm => in33 (h3 p hm).1)
      rw [e1] at h2
      refine ⟨(_, xs), rfl, .inr ⟨g, 0, 0, ?_, .inr ⟨_, AH.cells_ro h2, ?_, ?_⟩⟩, by rw [e2]; exact h1, e3⟩
      · rw [e2]
      · rw [Nat.zero_add]; exact Nat.le_refl _
      · rw [List.drop_zero]; exact List.take_of_length_le (Nat.le_refl _)
abbrev D43 := List UInt64
def c43 (x : D43) : List Value := x.map U64
def k43 (_ : AH) (x : D43) : Prop := x.length = 2
theorem in43 {H : AH} {d : Nat} {a : List Value} (h : AIn Tryd.prog H d 43 a) : ∃ x : D43, a = c43 x ∧ k43 H x := by
  cases d with
  | zero => exact h.elim
  | succ d =>
    unfold AIn at h
    simp only [show Tryd.prog.underlying 43 = some (.array 2 31) by kernel_rfl] at h
    obtain ⟨parts, rfl, hl, hp⟩ := h
    obtain ⟨xs, h1, h2⟩ := parts64 (by kernel_rfl) parts (fun p hm => (hp p hm).1)
    exact ⟨xs, h1, by rw [k43, h2, hl]⟩
abbrev D50 := Value × List UInt64
def c50 (x : D50) : List Value := [x.1]
def k50 (H : AH) (x : D50) : Prop := SL H x.1 (x.2.map U64) ∧ x.2.length ≤ maxLen
theorem in50 {H : AH} {d : Nat} {a : List Value} (h : AIn Tryd.prog H d 50 a) : ∃ x : D50, a = c50 x ∧ k50 H x := by
  cases d with
  | zero => exact h.elim
  | succ d =>
    unfold AIn at h
    simp only [show Tryd.prog.underlying 50 = some (.slice 31) by kernel_rfl] at h
    rcases h with rfl | rfl | ⟨g, parts, rfl, h0, h1, h2, h3⟩
    · exact ⟨(_, []), rfl, .inl ⟨rfl, rfl⟩, Nat.zero_le _⟩
    · exact ⟨(_, []), rfl, .inr ⟨0, 0, 0, rfl, .inl rfl⟩, Nat.zero_le _⟩
    · obtain ⟨xs, e1, e2⟩ := parts64 (by kernel_rfl) parts (fun p hm => (h3 p hm).1)
      rw [e1] at h2
      exact ⟨(_, xs), rfl, SL.whole _ (AH.cells_ro h2) e2.symm, by rw [e2]; exact h1⟩
abbrev D52 := UInt32
def c52 (x : D52) : List Value := [U32 x]
def k52 (_ : AH) (_ : D52) : Prop := True
theorem in52 {H : AH} {d : Nat} {a : List Value} (h : AIn Tryd.prog H d 52 a) : ∃ x : D52, a = c52 x ∧ k52 H x := by
  obtain ⟨x, hx⟩ := ain32 (by kernel_rfl) h
  exact ⟨x, hx, trivial⟩
abbrev D53 := List UInt8
def c53 (x : D53) : List Value := x.map U8
def k53 (_ : AH) (x : D53) : Prop := x.length = 32
theorem in53 {H : AH} {d : Nat} {a : List Value} (h : AIn Tryd.prog H d 53 a) : ∃ x : D53, a = c53 x ∧ k53 H x := by
  cases d with
  | zero => exact h.elim
  | succ d =>
    unfold AIn at h
    simp only [show Tryd.prog.underlying 53 = some (.array 32 5) by kernel_rfl] at h
    obtain ⟨parts, rfl, hl, hp⟩ := h
    obtain ⟨xs, h1, h2⟩ := parts8 (by kernel_rfl) parts (fun p hm => (hp p hm).1)
    exact ⟨xs, h1, by rw [k53, h2, hl]⟩
abbrev D55 := D3 × D3 × D52 × D3 × D53 × D3 × D52 × D53 × D31
def c55 (x : D55) : List Value := (c3 x.1 ++ (c3 x.2.1 ++ (c52 x.2.2.1 ++ (c3 x.2.2.2.1 ++ (c53 x.2.2.2.2.1 ++ (c3 x.2.2.2.2.2.1 ++ (c52 x.2.2.2.2.2.2.1 ++ (c53 x.2.2.2.2.2.2.2.1 ++ c31 x.2.2.2.2.2.2.2.2))))))))
def k55 (H : AH) (x : D55) : Prop := k3 H x.1 ∧ k3 H x.2.1 ∧ k52 H x.2.2.1 ∧ k3 H x.2.2.2.1 ∧ k53 H x.2.2.2.2.1 ∧ k3 H x.2.2.2.2.2.1 ∧ k52 H x.2.2.2.2.2.2.1 ∧ k53 H x.2.2.2.2.2.2.2.1 ∧ k31 H x.2.2.2.2.2.2.2.2
theorem in55 {H : AH} {d : Nat} {a : List Value} (h : AIn Tryd.prog H d 55 a) : ∃ x : D55, a = c55 x ∧ k55 H x := by
  cases d with
  | zero => exact h.elim
  | succ d =>
    unfold AIn at h
    have hT : Tryd.prog.underlying 55 = some (.struct #[{ name := "Version", type := 3, offset := 0, embedded := false, tag := "", pkgPath := "", byteOffset := 0 }, { name := "Pages", type := 3, offset := 1, embedded := false, tag := "", pkgPath := "", byteOffset := 8 }, { name := "Epoch", type := 52, offset := 2, embedded := false, tag := "", pkgPath := "", byteOffset := 16 }, { name := "HeadPlace", type := 3, offset := 3, embedded := false, tag := "", pkgPath := "", byteOffset := 24 }, { name := "Head", type := 53, offset := 4, embedded := false, tag := "", pkgPath := "", byteOffset := 32 }, { name := "RootPlace", type := 3, offset := 36, embedded := false, tag := "", pkgPath := "", byteOffset := 64 }, { name := "RootEpoch", type := 52, offset := 37, embedded := false, tag := "", pkgPath := "", byteOffset := 72 }, { name := "Root", type := 53, offset := 38, embedded := false, tag := "", pkgPath := "", byteOffset := 76 }, { name := "Commits", type := 31, offset := 70, embedded := false, tag := "", pkgPath := "", byteOffset := 112 }]) := by kernel_rfl
    simp only [hT] at h
    obtain ⟨parts, rfl, hl, hp⟩ := h
    match parts, hl with
    | [p0, p1, p2, p3, p4, p5, p6, p7, p8], _ =>
    obtain ⟨x0, e0, y0⟩ := in3 (hp 0 _ p0 rfl rfl).1
    obtain ⟨x1, e1, y1⟩ := in3 (hp 1 _ p1 rfl rfl).1
    obtain ⟨x2, e2, y2⟩ := in52 (hp 2 _ p2 rfl rfl).1
    obtain ⟨x3, e3, y3⟩ := in3 (hp 3 _ p3 rfl rfl).1
    obtain ⟨x4, e4, y4⟩ := in53 (hp 4 _ p4 rfl rfl).1
    obtain ⟨x5, e5, y5⟩ := in3 (hp 5 _ p5 rfl rfl).1
    obtain ⟨x6, e6, y6⟩ := in52 (hp 6 _ p6 rfl rfl).1
    obtain ⟨x7, e7, y7⟩ := in53 (hp 7 _ p7 rfl rfl).1
    obtain ⟨x8, e8, y8⟩ := in31 (hp 8 _ p8 rfl rfl).1
    exact ⟨(x0, x1, x2, x3, x4, x5, x6, x7, x8), by simp only [List.flatten_cons, List.flatten_nil, List.append_nil, e0, e1, e2, e3, e4, e5, e6, e7, e8, c55], y0, y1, y2, y3, y4, y5, y6, y7, y8⟩
abbrev D79 := D3 × D52 × D53
def c79 (x : D79) : List Value := (c3 x.1 ++ (c52 x.2.1 ++ c53 x.2.2))
def k79 (H : AH) (x : D79) : Prop := k3 H x.1 ∧ k52 H x.2.1 ∧ k53 H x.2.2
theorem in79 {H : AH} {d : Nat} {a : List Value} (h : AIn Tryd.prog H d 79 a) : ∃ x : D79, a = c79 x ∧ k79 H x := by
  cases d with
  | zero => exact h.elim
  | succ d =>
    unfold AIn at h
    have hT : Tryd.prog.underlying 79 = some (.struct #[{ name := "Place", type := 3, offset := 0, embedded := false, tag := "", pkgPath := "", byteOffset := 0 }, { name := "Epoch", type := 52, offset := 1, embedded := false, tag := "", pkgPath := "", byteOffset := 8 }, { name := "Digest", type := 53, offset := 2, embedded := false, tag := "", pkgPath := "", byteOffset := 12 }]) := by kernel_rfl
    simp only [hT] at h
    obtain ⟨parts, rfl, hl, hp⟩ := h
    match parts, hl with
    | [p0, p1, p2], _ =>
    obtain ⟨x0, e0, y0⟩ := in3 (hp 0 _ p0 rfl rfl).1
    obtain ⟨x1, e1, y1⟩ := in52 (hp 1 _ p1 rfl rfl).1
    obtain ⟨x2, e2, y2⟩ := in53 (hp 2 _ p2 rfl rfl).1
    exact ⟨(x0, x1, x2), by simp only [List.flatten_cons, List.flatten_nil, List.append_nil, e0, e1, e2, c79], y0, y1, y2⟩
abbrev D68 := Value × List D79
def c68 (x : D68) : List Value := [x.1]
def k68 (H : AH) (x : D68) : Prop := SLn H x.1 x.2.length ((x.2.map c79).flatten) ∧ x.2.length ≤ maxLen ∧ ∀ y ∈ x.2, k79 H y
theorem in68 {H : AH} {d : Nat} {a : List Value} (h : AIn Tryd.prog H d 68 a) : ∃ x : D68, a = c68 x ∧ k68 H x := by
  cases d with
  | zero => exact h.elim
  | succ d =>
    unfold AIn at h
    simp only [show Tryd.prog.underlying 68 = some (.slice 79) by kernel_rfl] at h
    rcases h with rfl | rfl | ⟨g, parts, rfl, h0, h1, h2, h3⟩
    · exact ⟨(_, []), rfl, .inl ⟨rfl, rfl, rfl⟩, Nat.zero_le _, fun y hy => absurd hy (by simp)⟩
    · exact ⟨(_, []), rfl, .inr ⟨0, 0, 0, rfl, .inl ⟨rfl, rfl⟩⟩, Nat.zero_le _, fun y hy => absurd hy (by simp)⟩
    · obtain ⟨xs, e1, e2, e3⟩ := partsG c79 (k79 H) parts (fun p hm => in79 (h3 p hm).1)
      rw [e1] at h2
      refine ⟨(_, xs), rfl, .inr ⟨g, 0, 0, ?_, .inr ⟨_, AH.cells_ro h2, ?_, ?_⟩⟩, by rw [e2]; exact h1, e3⟩
      · rw [e2]
      · rw [Nat.zero_add]; exact Nat.le_refl _
      · rw [List.drop_zero]; exact List.take_of_length_le (Nat.le_refl _)
abbrev D91 := Value × List D55
def c91 (x : D91) : List Value := [x.1]
def k91 (H : AH) (x : D91) : Prop := SLn H x.1 x.2.length ((x.2.map c55).flatten) ∧ x.2.length ≤ maxLen ∧ ∀ y ∈ x.2, k55 H y
theorem in91 {H : AH} {d : Nat} {a : List Value} (h : AIn Tryd.prog H d 91 a) : ∃ x : D91, a = c91 x ∧ k91 H x := by
  cases d with
  | zero => exact h.elim
  | succ d =>
    unfold AIn at h
    simp only [show Tryd.prog.underlying 91 = some (.slice 55) by kernel_rfl] at h
    rcases h with rfl | rfl | ⟨g, parts, rfl, h0, h1, h2, h3⟩
    · exact ⟨(_, []), rfl, .inl ⟨rfl, rfl, rfl⟩, Nat.zero_le _, fun y hy => absurd hy (by simp)⟩
    · exact ⟨(_, []), rfl, .inr ⟨0, 0, 0, rfl, .inl ⟨rfl, rfl⟩⟩, Nat.zero_le _, fun y hy => absurd hy (by simp)⟩
    · obtain ⟨xs, e1, e2, e3⟩ := partsG c55 (k55 H) parts (fun p hm => in55 (h3 p hm).1)
      rw [e1] at h2
      refine ⟨(_, xs), rfl, .inr ⟨g, 0, 0, ?_, .inr ⟨_, AH.cells_ro h2, ?_, ?_⟩⟩, by rw [e2]; exact h1, e3⟩
      · rw [e2]
      · rw [Nat.zero_add]; exact Nat.le_refl _
      · rw [List.drop_zero]; exact List.take_of_length_le (Nat.le_refl _)
theorem arg22 {H : AH} {v : Value} (h : AVal Tryd.prog H 22 v) : ∃ x : D22, [v] = c22 x ∧ k22 H x := by
  unfold AVal at h
  have hT : Tryd.prog.underlying 22 = some (.slice 5) := by kernel_rfl
  simp only [hT] at h
  obtain ⟨d, h⟩ := h
  exact in22 h
theorem arg23 {H : AH} {v : Value} (h : AVal Tryd.prog H 23 v) : ∃ x : D23, [v] = c23 x ∧ k23 H x := by
  unfold AVal at h
  have hT : Tryd.prog.underlying 23 = some (.slice 33) := by kernel_rfl
  simp only [hT] at h
  obtain ⟨d, h⟩ := h
  exact in23 h
theorem arg43 {H : AH} {v : Value} (h : AVal Tryd.prog H 43 v) : ∃ x : D43, v = .agg (c43 x).toArray ∧ k43 H x := by
  unfold AVal at h
  have hT : Tryd.prog.underlying 43 = some (.array 2 31) := by kernel_rfl
  simp only [hT] at h
  obtain ⟨acs, d, rfl, h⟩ := h
  obtain ⟨x, rfl, hk⟩ := in43 h
  exact ⟨x, rfl, hk⟩
theorem arg50 {H : AH} {v : Value} (h : AVal Tryd.prog H 50 v) : ∃ x : D50, [v] = c50 x ∧ k50 H x := by
  unfold AVal at h
  have hT : Tryd.prog.underlying 50 = some (.slice 31) := by kernel_rfl
  simp only [hT] at h
  obtain ⟨d, h⟩ := h
  exact in50 h
theorem arg5 {H : AH} {v : Value} (h : AVal Tryd.prog H 5 v) : ∃ x : D5, [v] = c5 x ∧ k5 H x := by
  unfold AVal at h
  have hT : Tryd.prog.underlying 5 = some (.int .u8) := by kernel_rfl
  simp only [hT] at h
  obtain ⟨d, h⟩ := h
  exact in5 h
theorem arg55 {H : AH} {v : Value} (h : AVal Tryd.prog H 55 v) : ∃ x : D55, v = .agg (c55 x).toArray ∧ k55 H x := by
  unfold AVal at h
  have hT : Tryd.prog.underlying 55 = some (.struct #[{ name := "Version", type := 3, offset := 0, embedded := false, tag := "", pkgPath := "", byteOffset := 0 }, { name := "Pages", type := 3, offset := 1, embedded := false, tag := "", pkgPath := "", byteOffset := 8 }, { name := "Epoch", type := 52, offset := 2, embedded := false, tag := "", pkgPath := "", byteOffset := 16 }, { name := "HeadPlace", type := 3, offset := 3, embedded := false, tag := "", pkgPath := "", byteOffset := 24 }, { name := "Head", type := 53, offset := 4, embedded := false, tag := "", pkgPath := "", byteOffset := 32 }, { name := "RootPlace", type := 3, offset := 36, embedded := false, tag := "", pkgPath := "", byteOffset := 64 }, { name := "RootEpoch", type := 52, offset := 37, embedded := false, tag := "", pkgPath := "", byteOffset := 72 }, { name := "Root", type := 53, offset := 38, embedded := false, tag := "", pkgPath := "", byteOffset := 76 }, { name := "Commits", type := 31, offset := 70, embedded := false, tag := "", pkgPath := "", byteOffset := 112 }]) := by kernel_rfl
  simp only [hT] at h
  obtain ⟨acs, d, rfl, h⟩ := h
  obtain ⟨x, rfl, hk⟩ := in55 h
  exact ⟨x, rfl, hk⟩
theorem arg68 {H : AH} {v : Value} (h : AVal Tryd.prog H 68 v) : ∃ x : D68, [v] = c68 x ∧ k68 H x := by
  unfold AVal at h
  have hT : Tryd.prog.underlying 68 = some (.slice 79) := by kernel_rfl
  simp only [hT] at h
  obtain ⟨d, h⟩ := h
  exact in68 h
theorem arg3 {H : AH} {v : Value} (h : AVal Tryd.prog H 3 v) : ∃ x : D3, [v] = c3 x ∧ k3 H x := by
  unfold AVal at h
  have hT : Tryd.prog.underlying 3 = some (.int .i64) := by kernel_rfl
  simp only [hT] at h
  obtain ⟨d, h⟩ := h
  exact in3 h
theorem arg79 {H : AH} {v : Value} (h : AVal Tryd.prog H 79 v) : ∃ x : D79, v = .agg (c79 x).toArray ∧ k79 H x := by
  unfold AVal at h
  have hT : Tryd.prog.underlying 79 = some (.struct #[{ name := "Place", type := 3, offset := 0, embedded := false, tag := "", pkgPath := "", byteOffset := 0 }, { name := "Epoch", type := 52, offset := 1, embedded := false, tag := "", pkgPath := "", byteOffset := 8 }, { name := "Digest", type := 53, offset := 2, embedded := false, tag := "", pkgPath := "", byteOffset := 12 }]) := by kernel_rfl
  simp only [hT] at h
  obtain ⟨acs, d, rfl, h⟩ := h
  obtain ⟨x, rfl, hk⟩ := in79 h
  exact ⟨x, rfl, hk⟩
theorem arg91 {H : AH} {v : Value} (h : AVal Tryd.prog H 91 v) : ∃ x : D91, [v] = c91 x ∧ k91 H x := by
  unfold AVal at h
  have hT : Tryd.prog.underlying 91 = some (.slice 55) := by kernel_rfl
  simp only [hT] at h
  obtain ⟨d, h⟩ := h
  exact in91 h
end Go.Proofs.YtfhbieimffjjkaaDoor
