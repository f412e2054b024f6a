/- What the arguments of the laws may be. Written by inp.py. -/
import Derived.Test.YtgccddamdjkhgaaC5
import Derived.Test.YtgccddamdjkhgaaTy
import Derived.KernelRfl
namespace Go.Proofs.Ytgccddamdjkhgaa
open Go Go.RowKit
set_option linter.unusedSimpArgs false
set_option linter.unusedVariables false
set_option maxRecDepth 100000
def SLn (H : AH) (v : Value) (n : Nat) (cells : List Value) : Prop := (v = .slice none 0 0 ∧ cells = [] ∧ n = 0) ∨ ∃ g o e, v = .slice (some ⟨g, o, none⟩) n e ∧ (cells = [] ∧ n = 0 ∨ ∃ cs, H.cells g = some cs ∧ o + cells.length ≤ cs.length ∧ (cs.drop o).take cells.length = cells)
theorem partsG {α : Type} (c : α → List Value) (k : α → Prop) : ∀ parts : List (List Value), (∀ p ∈ parts, ∃ x, p = c x ∧ k x) → ∃ xs : List α, parts.flatten = (xs.map c).flatten ∧ xs.length = parts.length ∧ ∀ x ∈ xs, k x
  | [], _ => ⟨[], rfl, rfl, fun x hx => absurd hx (by simp)⟩
  | p :: r, h => by
    obtain ⟨x, rfl, hx⟩ := h p (by simp)
    obtain ⟨xs, h1, h2, h3⟩ := partsG c k r (fun q hq => h q (by simp [hq]))
    refine ⟨x :: xs, by rw [List.flatten_cons, List.map_cons, List.flatten_cons, h1], by rw [List.length_cons, List.length_cons, h2], fun y hy => ?_⟩
    rcases List.mem_cons.1 hy with rfl | hy
    · exact hx
    · exact h3 y hy
abbrev D5 := UInt8
def c5 (x : D5) : List Value := [U8 x]
def k5 (_ : AH) (_ : D5) : Prop := True
theorem in5 {H : AH} {d : Nat} {a : List Value} (h : AIn Try.prog H d 5 a) : ∃ x : D5, a = c5 x ∧ k5 H x := by
  obtain ⟨x, hx⟩ := ain8 (by kernel_rfl) h
  exact ⟨x, hx, trivial⟩
abbrev D22 := List UInt8
def c22 (x : D22) : List Value := x.map U8
def k22 (_ : AH) (x : D22) : Prop := x.length = 32
theorem in22 {H : AH} {d : Nat} {a : List Value} (h : AIn Try.prog H d 22 a) : ∃ x : D22, a = c22 x ∧ k22 H x := by
  cases d with
  | zero => exact h.elim
  | succ d =>
    unfold AIn at h
    simp only [show Try.prog.underlying 22 = some (.array 32 5) by kernel_rfl] at h
    obtain ⟨parts, rfl, hl, hp⟩ := h
    obtain ⟨xs, h1, h2⟩ := parts8 (by kernel_rfl) parts (fun p hm => (hp p hm).1)
    exact ⟨xs, h1, by rw [k22, h2, hl]⟩
abbrev D23 := List UInt8
def c23 (x : D23) : List Value := x.map U8
def k23 (_ : AH) (x : D23) : Prop := x.length = 12
theorem in23 {H : AH} {d : Nat} {a : List Value} (h : AIn Try.prog H d 23 a) : ∃ x : D23, a = c23 x ∧ k23 H x := by
  cases d with
  | zero => exact h.elim
  | succ d =>
    unfold AIn at h
    simp only [show Try.prog.underlying 23 = some (.array 12 5) by kernel_rfl] at h
    obtain ⟨parts, rfl, hl, hp⟩ := h
    obtain ⟨xs, h1, h2⟩ := parts8 (by kernel_rfl) parts (fun p hm => (hp p hm).1)
    exact ⟨xs, h1, by rw [k23, h2, hl]⟩
abbrev D24 := UInt32
def c24 (x : D24) : List Value := [U32 x]
def k24 (_ : AH) (_ : D24) : Prop := True
theorem in24 {H : AH} {d : Nat} {a : List Value} (h : AIn Try.prog H d 24 a) : ∃ x : D24, a = c24 x ∧ k24 H x := by
  obtain ⟨x, hx⟩ := ain32 (by kernel_rfl) h
  exact ⟨x, hx, trivial⟩
abbrev D25 := List UInt32
def c25 (x : D25) : List Value := x.map U32
def k25 (_ : AH) (x : D25) : Prop := x.length = 5
theorem in25 {H : AH} {d : Nat} {a : List Value} (h : AIn Try.prog H d 25 a) : ∃ x : D25, a = c25 x ∧ k25 H x := by
  cases d with
  | zero => exact h.elim
  | succ d =>
    unfold AIn at h
    simp only [show Try.prog.underlying 25 = some (.array 5 24) by kernel_rfl] at h
    obtain ⟨parts, rfl, hl, hp⟩ := h
    obtain ⟨xs, h1, h2⟩ := parts32 (by kernel_rfl) parts (fun p hm => (hp p hm).1)
    exact ⟨xs, h1, by rw [k25, h2, hl]⟩
abbrev D33 := D22 × D23 × D24
def c33 (x : D33) : List Value := (c22 x.1 ++ (c23 x.2.1 ++ c24 x.2.2))
def k33 (H : AH) (x : D33) : Prop := k22 H x.1 ∧ k23 H x.2.1 ∧ k24 H x.2.2
theorem in33 {H : AH} {d : Nat} {a : List Value} (h : AIn Try.prog H d 33 a) : ∃ x : D33, a = c33 x ∧ k33 H x := by
  cases d with
  | zero => exact h.elim
  | succ d =>
    unfold AIn at h
    have hT : Try.prog.underlying 33 = some (.struct #[{ name := "Key", type := 22, offset := 0, embedded := false, tag := "", pkgPath := "", byteOffset := 0 }, { name := "Nonce", type := 23, offset := 32, embedded := false, tag := "", pkgPath := "", byteOffset := 32 }, { name := "Counter", type := 24, offset := 44, embedded := false, tag := "", pkgPath := "", byteOffset := 44 }]) := by kernel_rfl
    simp only [hT] at h
    obtain ⟨parts, rfl, hl, hp⟩ := h
    match parts, hl with
    | [p0, p1, p2], _ =>
    obtain ⟨x0, e0, y0⟩ := in22 (hp 0 _ p0 rfl rfl).1
    obtain ⟨x1, e1, y1⟩ := in23 (hp 1 _ p1 rfl rfl).1
    obtain ⟨x2, e2, y2⟩ := in24 (hp 2 _ p2 rfl rfl).1
    exact ⟨(x0, x1, x2), by simp only [List.flatten_cons, List.flatten_nil, List.append_nil, e0, e1, e2, c33], y0, y1, y2⟩
abbrev D34 := Value × List UInt8
def c34 (x : D34) : List Value := [x.1]
def k34 (H : AH) (x : D34) : Prop := SL H x.1 (x.2.map U8) ∧ x.2.length ≤ maxLen
theorem in34 {H : AH} {d : Nat} {a : List Value} (h : AIn Try.prog H d 34 a) : ∃ x : D34, a = c34 x ∧ k34 H x := by
  cases d with
  | zero => exact h.elim
  | succ d =>
    unfold AIn at h
    simp only [show Try.prog.underlying 34 = some (.slice 5) by kernel_rfl] at h
    rcases h with rfl | rfl | ⟨g, parts, rfl, h0, h1, h2, h3⟩
    · exact ⟨(_, []), rfl, .inl ⟨rfl, rfl⟩, Nat.zero_le _⟩
    · exact ⟨(_, []), rfl, .inr ⟨0, 0, 0, rfl, .inl rfl⟩, Nat.zero_le _⟩
    · obtain ⟨xs, e1, e2⟩ := parts8 (by kernel_rfl) parts (fun p hm => (h3 p hm).1)
      rw [e1] at h2
      exact ⟨(_, xs), rfl, SL.whole _ (AH.cells_ro h2) e2.symm, by rw [e2]; exact h1⟩
abbrev D3 := Int
def c3 (x : D3) : List Value := [.int .i64 x]
def k3 (_ : AH) (x : D3) : Prop := -9223372036854775808 ≤ x ∧ x ≤ 9223372036854775807
theorem in3 {H : AH} {d : Nat} {a : List Value} (h : AIn Try.prog H d 3 a) : ∃ x : D3, a = c3 x ∧ k3 H x := by
  cases d with
  | zero => exact h.elim
  | succ d =>
    unfold AIn at h
    simp only [show Try.prog.underlying 3 = some (.int .i64) by kernel_rfl] at h
    obtain ⟨n, rfl, hw⟩ := h
    have h1 : IntKind.i64.min = -9223372036854775808 := by decide
    have h2 : IntKind.i64.max = 9223372036854775807 := by decide
    simp only [Lit.wf, h1, h2, Bool.and_eq_true, decide_eq_true_eq] at hw
    exact ⟨n, rfl, hw⟩
abbrev D41 := List UInt32
def c41 (x : D41) : List Value := x.map U32
def k41 (_ : AH) (x : D41) : Prop := x.length = 2
theorem in41 {H : AH} {d : Nat} {a : List Value} (h : AIn Try.prog H d 41 a) : ∃ x : D41, a = c41 x ∧ k41 H x := by
  cases d with
  | zero => exact h.elim
  | succ d =>
    unfold AIn at h
    simp only [show Try.prog.underlying 41 = some (.array 2 24) by kernel_rfl] at h
    obtain ⟨parts, rfl, hl, hp⟩ := h
    obtain ⟨xs, h1, h2⟩ := parts32 (by kernel_rfl) parts (fun p hm => (hp p hm).1)
    exact ⟨xs, h1, by rw [k41, h2, hl]⟩
abbrev D42 := UInt64
def c42 (x : D42) : List Value := [U64 x]
def k42 (_ : AH) (_ : D42) : Prop := True
theorem in42 {H : AH} {d : Nat} {a : List Value} (h : AIn Try.prog H d 42 a) : ∃ x : D42, a = c42 x ∧ k42 H x := by
  obtain ⟨x, hx⟩ := ain64 (by kernel_rfl) h
  exact ⟨x, hx, trivial⟩
abbrev D43 := List UInt64
def c43 (x : D43) : List Value := x.map U64
def k43 (_ : AH) (x : D43) : Prop := x.length = 2
theorem in43 {H : AH} {d : Nat} {a : List Value} (h : AIn Try.prog H d 43 a) : ∃ x : D43, a = c43 x ∧ k43 H x := by
  cases d with
  | zero => exact h.elim
  | succ d =>
    unfold AIn at h
    simp only [show Try.prog.underlying 43 = some (.array 2 42) by kernel_rfl] at h
    obtain ⟨parts, rfl, hl, hp⟩ := h
    obtain ⟨xs, h1, h2⟩ := parts64 (by kernel_rfl) parts (fun p hm => (hp p hm).1)
    exact ⟨xs, h1, by rw [k43, h2, hl]⟩
abbrev D26 := List UInt32
def c26 (x : D26) : List Value := x.map U32
def k26 (_ : AH) (x : D26) : Prop := x.length = 4
theorem in26 {H : AH} {d : Nat} {a : List Value} (h : AIn Try.prog H d 26 a) : ∃ x : D26, a = c26 x ∧ k26 H x := by
  cases d with
  | zero => exact h.elim
  | succ d =>
    unfold AIn at h
    simp only [show Try.prog.underlying 26 = some (.array 4 24) by kernel_rfl] at h
    obtain ⟨parts, rfl, hl, hp⟩ := h
    obtain ⟨xs, h1, h2⟩ := parts32 (by kernel_rfl) parts (fun p hm => (hp p hm).1)
    exact ⟨xs, h1, by rw [k26, h2, hl]⟩
theorem arg22 {H : AH} {v : Value} (h : AVal Try.prog H 22 v) : ∃ x : D22, v = .agg (c22 x).toArray ∧ k22 H x := by
  unfold AVal at h
  have hT : Try.prog.underlying 22 = some (.array 32 5) := by kernel_rfl
  simp only [hT] at h
  obtain ⟨acs, d, rfl, h⟩ := h
  obtain ⟨x, rfl, hk⟩ := in22 h
  exact ⟨x, rfl, hk⟩
theorem arg23 {H : AH} {v : Value} (h : AVal Try.prog H 23 v) : ∃ x : D23, v = .agg (c23 x).toArray ∧ k23 H x := by
  unfold AVal at h
  have hT : Try.prog.underlying 23 = some (.array 12 5) := by kernel_rfl
  simp only [hT] at h
  obtain ⟨acs, d, rfl, h⟩ := h
  obtain ⟨x, rfl, hk⟩ := in23 h
  exact ⟨x, rfl, hk⟩
theorem arg25 {H : AH} {v : Value} (h : AVal Try.prog H 25 v) : ∃ x : D25, v = .agg (c25 x).toArray ∧ k25 H x := by
  unfold AVal at h
  have hT : Try.prog.underlying 25 = some (.array 5 24) := by kernel_rfl
  simp only [hT] at h
  obtain ⟨acs, d, rfl, h⟩ := h
  obtain ⟨x, rfl, hk⟩ := in25 h
  exact ⟨x, rfl, hk⟩
theorem arg33 {H : AH} {v : Value} (h : AVal Try.prog H 33 v) : ∃ x : D33, v = .agg (c33 x).toArray ∧ k33 H x := by
  unfold AVal at h
  have hT : Try.prog.underlying 33 = some (.struct #[{ name := "Key", type := 22, offset := 0, embedded := false, tag := "", pkgPath := "", byteOffset := 0 }, { name := "Nonce", type := 23, offset := 32, embedded := false, tag := "", pkgPath := "", byteOffset := 32 }, { name := "Counter", type := 24, offset := 44, embedded := false, tag := "", pkgPath := "", byteOffset := 44 }]) := by kernel_rfl
  simp only [hT] at h
  obtain ⟨acs, d, rfl, h⟩ := h
  obtain ⟨x, rfl, hk⟩ := in33 h
  exact ⟨x, rfl, hk⟩
theorem arg34 {H : AH} {v : Value} (h : AVal Try.prog H 34 v) : ∃ x : D34, [v] = c34 x ∧ k34 H x := by
  unfold AVal at h
  have hT : Try.prog.underlying 34 = some (.slice 5) := by kernel_rfl
  simp only [hT] at h
  obtain ⟨d, h⟩ := h
  exact in34 h
theorem arg3 {H : AH} {v : Value} (h : AVal Try.prog H 3 v) : ∃ x : D3, [v] = c3 x ∧ k3 H x := by
  unfold AVal at h
  have hT : Try.prog.underlying 3 = some (.int .i64) := by kernel_rfl
  simp only [hT] at h
  obtain ⟨d, h⟩ := h
  exact in3 h
theorem arg41 {H : AH} {v : Value} (h : AVal Try.prog H 41 v) : ∃ x : D41, v = .agg (c41 x).toArray ∧ k41 H x := by
  unfold AVal at h
  have hT : Try.prog.underlying 41 = some (.array 2 24) := by kernel_rfl
  simp only [hT] at h
  obtain ⟨acs, d, rfl, h⟩ := h
  obtain ⟨x, rfl, hk⟩ := in41 h
  exact ⟨x, rfl, hk⟩
theorem arg43 {H : AH} {v : Value} (h : AVal Try.prog H 43 v) : ∃ x : D43, v = .agg (c43 x).toArray ∧ k43 H x := by
  unfold AVal at h
  have hT : Try.prog.underlying 43 = some (.array 2 42) := by kernel_rfl
  simp only [hT] at h
  obtain ⟨acs, d, rfl, h⟩ := h
  obtain ⟨x, rfl, hk⟩ := in43 h
  exact ⟨x, rfl, hk⟩
theorem arg26 {H : AH} {v : Value} (h : AVal Try.prog H 26 v) : ∃ x : D26, v = .agg (c26 x).toArray ∧ k26 H x := by
  unfold AVal at h
  have hT : Try.prog.underlying 26 = some (.array 4 24) := by kernel_rfl
  simp only [hT] at h
  obtain ⟨acs, d, rfl, h⟩ := h
  obtain ⟨x, rfl, hk⟩ := in26 h
  exact ⟨x, rfl, hk⟩
end Go.Proofs.Ytgccddamdjkhgaa
