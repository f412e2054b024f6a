/- A law's arguments opened: words, arrays of words, slices of words. -/
import Derived.Test.YtelpdppdhimfoaaC4
namespace Go.Proofs.Ytelpdppdhimfoaa
open Go Go.RowKit
set_option linter.unusedSimpArgs false
set_option linter.unusedVariables false
theorem word_of8 {n : Int} (h : (Lit.int .u8 n).wf = true) : ∃ x : UInt8, Value.int .u8 n = U8 x := by
  have h1 : IntKind.u8.min = 0 := by decide
  have h2 : IntKind.u8.max = 255 := by decide
  simp only [Lit.wf, h1, h2, Bool.and_eq_true, decide_eq_true_eq] at h
  refine ⟨UInt8.ofNat n.toNat, ?_⟩
  have e : ((UInt8.ofNat n.toNat).toNat : Int) = n := by
    rw [UInt8.toNat_ofNat', Nat.mod_eq_of_lt (by omega)]; omega
  rw [U8, e]
theorem ain8 {P : Program} {H : AH} {d e : Nat} {p : List Value} (he : P.underlying e = some (.int .u8)) (h : AIn P H d e p) : ∃ x : UInt8, p = [U8 x] := by
  cases d with
  | zero => exact h.elim
  | succ d =>
    unfold AIn at h
    simp only [he] at h
    obtain ⟨n, rfl, hw⟩ := h
    obtain ⟨x, hx⟩ := word_of8 hw
    exact ⟨x, by rw [hx]⟩
theorem parts8 {P : Program} {H : AH} {d e : Nat} (he : P.underlying e = some (.int .u8)) : ∀ parts : List (List Value), (∀ p ∈ parts, AIn P H d e p) → ∃ xs : List UInt8, parts.flatten = xs.map U8 ∧ xs.length = parts.length
  | [], _ => ⟨[], rfl, rfl⟩
  | p :: r, h => by
    obtain ⟨x, rfl⟩ := ain8 he (h p (by simp))
    obtain ⟨xs, h1, h2⟩ := parts8 he r (fun q hq => h q (by simp [hq]))
    exact ⟨x :: xs, by rw [List.flatten_cons, h1]; rfl, by rw [List.length_cons, List.length_cons, h2]⟩
theorem aval8 {P : Program} {H : AH} {e : Nat} {v : Value} (he : P.underlying e = some (.int .u8)) (h : AVal P H e v) : ∃ x : UInt8, v = U8 x := by
  unfold AVal at h
  simp only [he] at h
  obtain ⟨d, h⟩ := h
  obtain ⟨x, hx⟩ := ain8 he h
  exact ⟨x, by cases hx; rfl⟩
theorem avalA8 {P : Program} {H : AH} {T e n : Nat} {v : Value} (hT : P.underlying T = some (.array n e)) (he : P.underlying e = some (.int .u8)) (h : AVal P H T v) : ∃ xs : List UInt8, xs.length = n ∧ v = .agg (xs.map U8).toArray := by
  unfold AVal at h
  simp only [hT] at h
  obtain ⟨acs, d, rfl, h⟩ := h
  unfold AIn at h
  simp only [hT] at h
  obtain ⟨parts, rfl, hl, hp⟩ := h
  obtain ⟨xs, h1, h2⟩ := parts8 he parts (fun p hm => (hp p hm).1)
  exact ⟨xs, by rw [h2, hl], by rw [h1]⟩
theorem avalS8 {P : Program} {H : AH} {T e : Nat} {v : Value} (hT : P.underlying T = some (.slice e)) (he : P.underlying e = some (.int .u8)) (h : AVal P H T v) : ∃ xs : List UInt8, xs.length ≤ maxLen ∧ SL H v (xs.map U8) := by
  unfold AVal at h
  simp only [hT] at h
  obtain ⟨d, h⟩ := h
  unfold AIn at h
  simp only [hT] at h
  rcases h with h | h | ⟨g, parts, h, h0, h1, h2, h3⟩
  · cases h; exact ⟨[], Nat.zero_le _, .inl ⟨rfl, rfl⟩⟩
  · cases h; exact ⟨[], Nat.zero_le _, .inr ⟨0, 0, 0, rfl, .inl rfl⟩⟩
  · cases h
    obtain ⟨xs, e1, e2⟩ := parts8 he parts (fun p hm => (h3 p hm).1)
    rw [e1] at h2
    exact ⟨xs, by rw [e2]; exact h1, SL.whole _ (AH.cells_ro h2) e2.symm⟩
theorem word_of16 {n : Int} (h : (Lit.int .u16 n).wf = true) : ∃ x : UInt16, Value.int .u16 n = U16 x := by
  have h1 : IntKind.u16.min = 0 := by decide
  have h2 : IntKind.u16.max = 65535 := by decide
  simp only [Lit.wf, h1, h2, Bool.and_eq_true, decide_eq_true_eq] at h
  refine ⟨UInt16.ofNat n.toNat, ?_⟩
  have e : ((UInt16.ofNat n.toNat).toNat : Int) = n := by
    rw [UInt16.toNat_ofNat', Nat.mod_eq_of_lt (by omega)]; omega
  rw [U16, e]
theorem ain16 {P : Program} {H : AH} {d e : Nat} {p : List Value} (he : P.underlying e = some (.int .u16)) (h : AIn P H d e p) : ∃ x : UInt16, p = [U16 x] := by
  cases d with
  | zero => exact h.elim
  | succ d =>
    unfold AIn at h
    simp only [he] at h
    obtain ⟨n, rfl, hw⟩ := h
    obtain ⟨x, hx⟩ := word_of16 hw
    exact ⟨x, by rw [hx]⟩
theorem parts16 {P : Program} {H : AH} {d e : Nat} (he : P.underlying e = some (.int .u16)) : ∀ parts : List (List Value), (∀ p ∈ parts, AIn P H d e p) → ∃ xs : List UInt16, parts.flatten = xs.map U16 ∧ xs.length = parts.length
  | [], _ => ⟨[], rfl, rfl⟩
  | p :: r, h => by
    obtain ⟨x, rfl⟩ := ain16 he (h p (by simp))
    obtain ⟨xs, h1, h2⟩ := parts16 he r (fun q hq => h q (by simp [hq]))
    exact ⟨x :: xs, by rw [List.flatten_cons, h1]; rfl, by rw [List.length_cons, List.length_cons, h2]⟩
theorem aval16 {P : Program} {H : AH} {e : Nat} {v : Value} (he : P.underlying e = some (.int .u16)) (h : AVal P H e v) : ∃ x : UInt16, v = U16 x := by
  unfold AVal at h
  simp only [he] at h
  obtain ⟨d, h⟩ := h
  obtain ⟨x, hx⟩ := ain16 he h
  exact ⟨x, by cases hx; rfl⟩
theorem avalA16 {P : Program} {H : AH} {T e n : Nat} {v : Value} (hT : P.underlying T = some (.array n e)) (he : P.underlying e = some (.int .u16)) (h : AVal P H T v) : ∃ xs : List UInt16, xs.length = n ∧ v = .agg (xs.map U16).toArray := by
  unfold AVal at h
  simp only [hT] at h
  obtain ⟨acs, d, rfl, h⟩ := h
  unfold AIn at h
  simp only [hT] at h
  obtain ⟨parts, rfl, hl, hp⟩ := h
  obtain ⟨xs, h1, h2⟩ := parts16 he parts (fun p hm => (hp p hm).1)
  exact ⟨xs, by rw [h2, hl], by rw [h1]⟩
theorem avalS16 {P : Program} {H : AH} {T e : Nat} {v : Value} (hT : P.underlying T = some (.slice e)) (he : P.underlying e = some (.int .u16)) (h : AVal P H T v) : ∃ xs : List UInt16, xs.length ≤ maxLen ∧ SL H v (xs.map U16) := by
  unfold AVal at h
  simp only [hT] at h
  obtain ⟨d, h⟩ := h
  unfold AIn at h
  simp only [hT] at h
  rcases h with h | h | ⟨g, parts, h, h0, h1, h2, h3⟩
  · cases h; exact ⟨[], Nat.zero_le _, .inl ⟨rfl, rfl⟩⟩
  · cases h; exact ⟨[], Nat.zero_le _, .inr ⟨0, 0, 0, rfl, .inl rfl⟩⟩
  · cases h
    obtain ⟨xs, e1, e2⟩ := parts16 he parts (fun p hm => (h3 p hm).1)
    rw [e1] at h2
    exact ⟨xs, by rw [e2]; exact h1, SL.whole _ (AH.cells_ro h2) e2.symm⟩
theorem word_of32 {n : Int} (h : (Lit.int .u32 n).wf = true) : ∃ x : UInt32, Value.int .u32 n = U32 x := by
  have h1 : IntKind.u32.min = 0 := by decide
  have h2 : IntKind.u32.max = 4294967295 := by decide
  simp only [Lit.wf, h1, h2, Bool.and_eq_true, decide_eq_true_eq] at h
  refine ⟨UInt32.ofNat n.toNat, ?_⟩
  have e : ((UInt32.ofNat n.toNat).toNat : Int) = n := by
    rw [UInt32.toNat_ofNat', Nat.mod_eq_of_lt (by omega)]; omega
  rw [U32, e]
theorem ain32 {P : Program} {H : AH} {d e : Nat} {p : List Value} (he : P.underlying e = some (.int .u32)) (h : AIn P H d e p) : ∃ x : UInt32, p = [U32 x] := by
  cases d with
  | zero => exact h.elim
  | succ d =>
    unfold AIn at h
    simp only [he] at h
    obtain ⟨n, rfl, hw⟩ := h
    obtain ⟨x, hx⟩ := word_of32 hw
    exact ⟨x, by rw [hx]⟩
theorem parts32 {P : Program} {H : AH} {d e : Nat} (he : P.underlying e = some (.int .u32)) : ∀ parts : List (List Value), (∀ p ∈ parts, AIn P H d e p) → ∃ xs : List UInt32, parts.flatten = xs.map U32 ∧ xs.length = parts.length
  | [], _ => ⟨[], rfl, rfl⟩
  | p :: r, h => by
    obtain ⟨x, rfl⟩ := ain32 he (h p (by simp))
    obtain ⟨xs, h1, h2⟩ := parts32 he r (fun q hq => h q (by simp [hq]))
    exact ⟨x :: xs, by rw [List.flatten_cons, h1]; rfl, by rw [List.length_cons, List.length_cons, h2]⟩
theorem aval32 {P : Program} {H : AH} {e : Nat} {v : Value} (he : P.underlying e = some (.int .u32)) (h : AVal P H e v) : ∃ x : UInt32, v = U32 x := by
  unfold AVal at h
  simp only [he] at h
  obtain ⟨d, h⟩ := h
  obtain ⟨x, hx⟩ := ain32 he h
  exact ⟨x, by cases hx; rfl⟩
theorem avalA32 {P : Program} {H : AH} {T e n : Nat} {v : Value} (hT : P.underlying T = some (.array n e)) (he : P.underlying e = some (.int .u32)) (h : AVal P H T v) : ∃ xs : List UInt32, xs.length = n ∧ v = .agg (xs.map U32).toArray := by
  unfold AVal at h
  simp only [hT] at h
  obtain ⟨acs, d, rfl, h⟩ := h
  unfold AIn at h
  simp only [hT] at h
  obtain ⟨parts, rfl, hl, hp⟩ := h
  obtain ⟨xs, h1, h2⟩ := parts32 he parts (fun p hm => (hp p hm).1)
  exact ⟨xs, by rw [h2, hl], by rw [h1]⟩
theorem avalS32 {P : Program} {H : AH} {T e : Nat} {v : Value} (hT : P.underlying T = some (.slice e)) (he : P.underlying e = some (.int .u32)) (h : AVal P H T v) : ∃ xs : List UInt32, xs.length ≤ maxLen ∧ SL H v (xs.map U32) := by
  unfold AVal at h
  simp only [hT] at h
  obtain ⟨d, h⟩ := h
  unfold AIn at h
  simp only [hT] at h
  rcases h with h | h | ⟨g, parts, h, h0, h1, h2, h3⟩
  · cases h; exact ⟨[], Nat.zero_le _, .inl ⟨rfl, rfl⟩⟩
  · cases h; exact ⟨[], Nat.zero_le _, .inr ⟨0, 0, 0, rfl, .inl rfl⟩⟩
  · cases h
    obtain ⟨xs, e1, e2⟩ := parts32 he parts (fun p hm => (h3 p hm).1)
    rw [e1] at h2
    exact ⟨xs, by rw [e2]; exact h1, SL.whole _ (AH.cells_ro h2) e2.symm⟩
theorem word_of64 {n : Int} (h : (Lit.int .u64 n).wf = true) : ∃ x : UInt64, Value.int .u64 n = U64 x := by
  have h1 : IntKind.u64.min = 0 := by decide
  have h2 : IntKind.u64.max = 18446744073709551615 := by decide
  simp only [Lit.wf, h1, h2, Bool.and_eq_true, decide_eq_true_eq] at h
  refine ⟨UInt64.ofNat n.toNat, ?_⟩
  have e : ((UInt64.ofNat n.toNat).toNat : Int) = n := by
    rw [UInt64.toNat_ofNat', Nat.mod_eq_of_lt (by omega)]; omega
  rw [U64, e]
theorem ain64 {P : Program} {H : AH} {d e : Nat} {p : List Value} (he : P.underlying e = some (.int .u64)) (h : AIn P H d e p) : ∃ x : UInt64, p = [U64 x] := by
  cases d with
  | zero => exact h.elim
  | succ d =>
    unfold AIn at h
    simp only [he] at h
    obtain ⟨n, rfl, hw⟩ := h
    obtain ⟨x, hx⟩ := word_of64 hw
    exact ⟨x, by rw [hx]⟩
theorem parts64 {P : Program} {H : AH} {d e : Nat} (he : P.underlying e = some (.int .u64)) : ∀ parts : List (List Value), (∀ p ∈ parts, AIn P H d e p) → ∃ xs : List UInt64, parts.flatten = xs.map U64 ∧ xs.length = parts.length
  | [], _ => ⟨[], rfl, rfl⟩
  | p :: r, h => by
    obtain ⟨x, rfl⟩ := ain64 he (h p (by simp))
    obtain ⟨xs, h1, h2⟩ := parts64 he r (fun q hq => h q (by simp [hq]))
    exact ⟨x :: xs, by rw [List.flatten_cons, h1]; rfl, by rw [List.length_cons, List.length_cons, h2]⟩
theorem aval64 {P : Program} {H : AH} {e : Nat} {v : Value} (he : P.underlying e = some (.int .u64)) (h : AVal P H e v) : ∃ x : UInt64, v = U64 x := by
  unfold AVal at h
  simp only [he] at h
  obtain ⟨d, h⟩ := h
  obtain ⟨x, hx⟩ := ain64 he h
  exact ⟨x, by cases hx; rfl⟩
theorem avalA64 {P : Program} {H : AH} {T e n : Nat} {v : Value} (hT : P.underlying T = some (.array n e)) (he : P.underlying e = some (.int .u64)) (h : AVal P H T v) : ∃ xs : List UInt64, xs.length = n ∧ v = .agg (xs.map U64).toArray := by
  unfold AVal at h
  simp only [hT] at h
  obtain ⟨acs, d, rfl, h⟩ := h
  unfold AIn at h
  simp only [hT] at h
  obtain ⟨parts, rfl, hl, hp⟩ := h
  obtain ⟨xs, h1, h2⟩ := parts64 he parts (fun p hm => (hp p hm).1)
  exact ⟨xs, by rw [h2, hl], by rw [h1]⟩
theorem avalS64 {P : Program} {H : AH} {T e : Nat} {v : Value} (hT : P.underlying T = some (.slice e)) (he : P.underlying e = some (.int .u64)) (h : AVal P H T v) : ∃ xs : List UInt64, xs.length ≤ maxLen ∧ SL H v (xs.map U64) := by
  unfold AVal at h
  simp only [hT] at h
  obtain ⟨d, h⟩ := h
  unfold AIn at h
  simp only [hT] at h
  rcases h with h | h | ⟨g, parts, h, h0, h1, h2, h3⟩
  · cases h; exact ⟨[], Nat.zero_le _, .inl ⟨rfl, rfl⟩⟩
  · cases h; exact ⟨[], Nat.zero_le _, .inr ⟨0, 0, 0, rfl, .inl rfl⟩⟩
  · cases h
    obtain ⟨xs, e1, e2⟩ := parts64 he parts (fun p hm => (h3 p hm).1)
    rw [e1] at h2
    exact ⟨xs, by rw [e2]; exact h1, SL.whole _ (AH.cells_ro h2) e2.symm⟩
end Go.Proofs.Ytelpdppdhimfoaa
