/- '==' of arrays of whole numbers. A law's arguments opened: words, arrays of words, slices of words. Slices that are owned whole: what is put behind them, what is written into them. -/
import Derived.Test.YtldfnfpinemedaaDoorC3

namespace Go.Proofs.YtldfnfpinemedaaDoor
open Go Go.RowKit
set_option linter.unusedSimpArgs false
set_option linter.unusedVariables false
set_option maxRecDepth 4000
theorem mapM_some {α β : Type} {f : α → Option β} {g : α → β} : ∀ (l : List α), (∀ a ∈ l, f a = some (g a)) → l.mapM f = some (l.map g)
  | [], _ => rfl
  | a :: r, h => by
    rw [List.mapM_cons, h a (by simp), mapM_some r (fun b hb => h b (by simp [hb]))]
    rfl
theorem keyLits_words {P : Program} {T e n : Nat} {k : IntKind} (hT : P.underlying T = some (.array n e)) (he : P.underlying e = some (.int k)) (hc : P.cellsOf e = 1) (hcT : P.cellsOf T = n) {α : Type} (f : α → Int) (hf : ∀ a, (Lit.int k (f a)).wf = true) (xs : List α) (hx : xs.length = n) :
    P.keyLits 8 T (xs.map fun a => Value.int k (f a)) = some (xs.map fun a => Lit.int k (f a)) := by
  unfold Program.keyLits
  simp only [hT, hcT, List.length_map, hx, if_true, hc, Nat.mul_one]
  have key : ∀ i ∈ List.range n, P.keyLits 7 e (List.take 1 (List.drop i (xs.map fun a => Value.int k (f a)))) = some ((xs.map fun a => [Lit.int k (f a)]).getD i []) := by
    intro i hi
    have hi' : i < xs.length := by rw [hx]; exact List.mem_range.1 hi
    have e1 : List.take 1 (List.drop i (xs.map fun a => Value.int k (f a))) = [Value.int k (f xs[i])] := by
      rw [List.drop_eq_getElem_cons (by rw [List.length_map]; exact hi')]
      simp
    rw [e1]
    unfold Program.keyLits
    simp only [he, hf, and_self, if_true]
    rw [List.getD_eq_getElem?_getD, List.getElem?_map, List.getElem?_eq_getElem hi']
    rfl
  rw [mapM_some _ key, Option.map_some]
  congr 1
  have e2 : (List.range n).map (fun i => (xs.map fun a => [Lit.int k (f a)]).getD i []) = xs.map fun a => [Lit.int k (f a)] := by
    apply List.ext_getElem?
    intro i
    by_cases h : i < n
    · rw [List.getElem?_map, List.getElem?_range h, Option.map_some, List.getD_eq_getElem?_getD, List.getElem?_map, List.getElem?_eq_getElem (by omega)]; rfl
    · rw [List.getElem?_eq_none (by simp; omega), List.getElem?_eq_none (by simp; omega)]
  rw [e2]
  clear e2 key hx
  induction xs with
  | nil => rfl
  | cons a r ih => simp only [List.map_cons, List.flatten_cons, List.singleton_append, ih]
theorem aeq_words {P : Program} {T e n : Nat} {k : IntKind} (hT : P.underlying T = some (.array n e)) (he : P.underlying e = some (.int k)) (hc : P.cellsOf e = 1) (hcT : P.cellsOf T = n) (hg : P.eqGuardType P.depth T = false) {α : Type} [DecidableEq α] (f : α → Int) (hf : ∀ a, (Lit.int k (f a)).wf = true) (hi : ∀ a b, f a = f b → a = b)
    (xs ys : List α) (hx : xs.length = n) (hy : ys.length = n) : aeqAgg P T (xs.map fun a => Value.int k (f a)).toArray (ys.map fun a => Value.int k (f a)).toArray = some (decide (xs = ys)) := by
  unfold aeqAgg
  have h1 : ∀ l : List α, (l.map fun a => Value.int k (f a)).toArray.all scalarv = true := fun l => by
    rw [List.all_toArray, List.all_map]; simp [scalarv]
  have h2 : P.keyTypeAt 8 T = true := by unfold Program.keyTypeAt; simp only [hT]; unfold Program.keyTypeAt; simp only [he]
  have h3 : ∀ l : List α, l.length = n → (Value.agg (l.map fun a => Value.int k (f a)).toArray).formed P T = true := fun l hl => by
    unfold Value.formed; simp only [hT, hcT]; simp [hl]
  rw [if_pos (by rw [h1, h1, h2, hg, h3 _ hx, h3 _ hy]; rfl)]
  simp only [keyLits_words hT he hc hcT f hf xs hx, keyLits_words hT he hc hcT f hf ys hy]
  congr 1
  rw [decide_eq_decide]
  constructor
  · intro h
    have : ∀ (xs ys : List α), (xs.map fun a => Lit.int k (f a)) = (ys.map fun a => Lit.int k (f a)) → xs = ys := by
      intro xs
      induction xs with
      | nil => intro ys h; cases ys with
        | nil => rfl
        | cons b s => cases h
      | cons a r ih => intro ys h; cases ys with
        | nil => cases h
        | cons b s =>
          simp only [List.map_cons, List.cons.injEq, Lit.int.injEq, true_and] at h
          rw [hi _ _ h.1, ih _ h.2]
    exact this _ _ h
  · rintro rfl; rfl
theorem wf8 (x : UInt8) : (Lit.int .u8 (x.toNat : Int)).wf = true := by
  have := x.toNat_lt
  have h1 : IntKind.u8.min = 0 := by decide
  have h2 : IntKind.u8.max = 255 := by decide
  simp only [Lit.wf, h1, h2, Bool.and_eq_true, decide_eq_true_eq]; omega
theorem inj8 (x y : UInt8) (h : (x.toNat : Int) = (y.toNat : Int)) : x = y := UInt8.toNat_inj.1 (by omega)
theorem wf16 (x : UInt16) : (Lit.int .u16 (x.toNat : Int)).wf = true := by
  have := x.toNat_lt
  have h1 : IntKind.u16.min = 0 := by decide
  have h2 : IntKind.u16.max = 65535 := by decide
  simp only [Lit.wf, h1, h2, Bool.and_eq_true, decide_eq_true_eq]; omega
theorem inj16 (x y : UInt16) (h : (x.toNat : Int) = (y.toNat : Int)) : x = y := UInt16.toNat_inj.1 (by omega)
theorem wf32 (x : UInt32) : (Lit.int .u32 (x.toNat : Int)).wf = true := by
  have := x.toNat_lt
  have h1 : IntKind.u32.min = 0 := by decide
  have h2 : IntKind.u32.max = 4294967295 := by decide
  simp only [Lit.wf, h1, h2, Bool.and_eq_true, decide_eq_true_eq]; omega
theorem inj32 (x y : UInt32) (h : (x.toNat : Int) = (y.toNat : Int)) : x = y := UInt32.toNat_inj.1 (by omega)
theorem wf64 (x : UInt64) : (Lit.int .u64 (x.toNat : Int)).wf = true := by
  have := x.toNat_lt
  have h1 : IntKind.u64.min = 0 := by decide
  have h2 : IntKind.u64.max = 18446744073709551615 := by decide
  simp only [Lit.wf, h1, h2, Bool.and_eq_true, decide_eq_true_eq]; omega
theorem inj64 (x y : UInt64) (h : (x.toNat : Int) = (y.toNat : Int)) : x = y := UInt64.toNat_inj.1 (by omega)
end Go.Proofs.YtldfnfpinemedaaDoor

namespace Go.Proofs.YtldfnfpinemedaaDoor
open Go Go.RowKit
set_option linter.unusedSimpArgs false
set_option linter.unusedVariables false
set_option maxRecDepth 4000
theorem word_of8 {n : Int} (h : (Lit.int .u8 n).wf = true) : ∃ x : UInt8, Value.int .u8 n = U8 x := by
  have h1 : IntKind.u8.min = 0 := by decide
  have h2 : IntKind.u8.max = 255 := by decide
  simp only [Lit.wf, h1, h2, Bool.and_eq_true, decide_eq_true_eq] at h
  refine ⟨UInt8.ofNat n.toNat, ?_⟩
  have e : ((UInt8.ofNat n.toNat).toNat : Int) = n := by
    rw [UInt8.toNat_ofNat', Nat.mod_eq_of_lt (by omega)]; omega
  rw [U8, e]
theorem ain8 {P : Program} {H : AH} {d e : Nat} {p : List Value} (he : P.underlying e = some (.int .u8)) (h : AIn P H d e p) : ∃ x : UInt8, p = [U8 x] := by
  cases d with
  | zero => exact h.elim
  | succ d =>
    unfold AIn at h
    simp only [he] at h
    obtain ⟨n, rfl, hw⟩ := h
    obtain ⟨x, hx⟩ := word_of8 hw
    exact ⟨x, by rw [hx]⟩
theorem parts8 {P : Program} {H : AH} {d e : Nat} (he : P.underlying e = some (.int .u8)) : ∀ parts : List (List Value), (∀ p ∈ parts, AIn P H d e p) → ∃ xs : List UInt8, parts.flatten = xs.map U8 ∧ xs.length = parts.length
  | [], _ => ⟨[], rfl, rfl⟩
  | p :: r, h => by
    obtain ⟨x, rfl⟩ := ain8 he (h p (by simp))
    obtain ⟨xs, h1, h2⟩ := parts8 he r (fun q hq => h q (by simp [hq]))
    exact ⟨x :: xs, by rw [List.flatten_cons, h1]; rfl, by rw [List.length_cons, List.length_cons, h2]⟩
theorem aval8 {P : Program} {H : AH} {e : Nat} {v : Value} (he : P.underlying e = some (.int .u8)) (h : AVal P H e v) : ∃ x : UInt8, v = U8 x := by
  unfold AVal at h
  simp only [he] at h
  obtain ⟨d, h⟩ := h
  obtain ⟨x, hx⟩ := ain8 he h
  exact ⟨x, by cases hx; rfl⟩
theorem avalA8 {P : Program} {H : AH} {T e n : Nat} {v : Value} (hT : P.underlying T = some (.array n e)) (he : P.underlying e = some (.int .u8)) (h : AVal P H T v) : ∃ xs : List UInt8, xs.length = n ∧ v = .agg (xs.map U8).toArray := by
  unfold AVal at h
  simp only [hT] at h
  obtain ⟨acs, d, rfl, h⟩ := h
  unfold AIn at h
  simp only [hT] at h
  obtain ⟨parts, rfl, hl, hp⟩ := h
  obtain ⟨xs, h1, h2⟩ := parts8 he parts (fun p hm => (hp p hm).1)
  exact ⟨xs, by rw [h2, hl], by rw [h1]⟩
theorem avalS8 {P : Program} {H : AH} {T e : Nat} {v : Value} (hT : P.underlying T = some (.slice e)) (he : P.underlying e = some (.int .u8)) (h : AVal P H T v) : ∃ xs : List UInt8, xs.length ≤ maxLen ∧ SL H v (xs.map U8) := by
  unfold AVal at h
  simp only [hT] at h
  obtain ⟨d, h⟩ := h
  unfold AIn at h
  simp only [hT] at h
  rcases h with h | h | ⟨g, parts, h, h0, h1, h2, h3⟩
  · cases h; exact ⟨[], Nat.zero_le _, .inl ⟨rfl, rfl⟩⟩
  · cases h; exact ⟨[], Nat.zero_le _, .inr ⟨0, 0, 0, rfl, .inl rfl⟩⟩
  · cases h
    obtain ⟨xs, e1, e2⟩ := parts8 he parts (fun p hm => (h3 p hm).1)
    rw [e1] at h2
    exact ⟨xs, by rw [e2]; exact h1, SL.whole _ (AH.cells_ro h2) e2.symm⟩
theorem word_of16 {n : Int} (h : (Lit.int .u16 n).wf = true) : ∃ x : UInt16, Value.int .u16 n = U16 x := by
  have h1 : IntKind.u16.min = 0 := by decide
  have h2 : IntKind.u16.max = 65535 := by decide
  simp only [Lit.wf, h1, h2, Bool.and_eq_true, decide_eq_true_eq] at h
  refine ⟨UInt16.ofNat n.toNat, ?_⟩
  have e : ((UInt16.ofNat n.toNat).toNat : Int) = n := by
    rw [UInt16.toNat_ofNat', Nat.mod_eq_of_lt (by omega)]; omega
  rw [U16, e]
theorem ain16 {P : Program} {H : AH} {d e : Nat} {p : List Value} (he : P.underlying e = some (.int .u16)) (h : AIn P H d e p) : ∃ x : UInt16, p = [U16 x] := by
  cases d with
  | zero => exact h.elim
  | succ d =>
    unfold AIn at h
    simp only [he] at h
    obtain ⟨n, rfl, hw⟩ := h
    obtain ⟨x, hx⟩ := word_of16 hw
    exact ⟨x, by rw [hx]⟩
theorem parts16 {P : Program} {H : AH} {d e : Nat} (he : P.underlying e = some (.int .u16)) : ∀ parts : List (List Value), (∀ p ∈ parts, AIn P H d e p) → ∃ xs : List UInt16, parts.flatten = xs.map U16 ∧ xs.length = parts.length
  | [], _ => ⟨[], rfl, rfl⟩
  | p :: r, h => by
    obtain ⟨x, rfl⟩ := ain16 he (h p (by simp))
    obtain ⟨xs, h1, h2⟩ := parts16 he r (fun q hq => h q (by simp [hq]))
    exact ⟨x :: xs, by rw [List.flatten_cons, h1]; rfl, by rw [List.length_cons, List.length_cons, h2]⟩
theorem aval16 {P : Program} {H : AH} {e : Nat} {v : Value} (he : P.underlying e = some (.int .u16)) (h : AVal P H e v) : ∃ x : UInt16, v = U16 x := by
  unfold AVal at h
  simp only [he] at h
  obtain ⟨d, h⟩ := h
  obtain ⟨x, hx⟩ := ain16 he h
  exact ⟨x, by cases hx; rfl⟩
theorem avalA16 {P : Program} {H : AH} {T e n : Nat} {v : Value} (hT : P.underlying T = some (.array n e)) (he : P.underlying e = some (.int .u16)) (h : AVal P H T v) : ∃ xs : List UInt16, xs.length = n ∧ v = .agg (xs.map U16).toArray := by
  unfold AVal at h
  simp only [hT] at h
  obtain ⟨acs, d, rfl, h⟩ := h
  unfold AIn at h
  simp only [hT] at h
  obtain ⟨parts, rfl, hl, hp⟩ := h
  obtain ⟨xs, h1, h2⟩ := parts16 he parts (fun p hm => (hp p hm).1)
  exact ⟨xs, by rw [h2, hl], by rw [h1]⟩
theorem avalS16 {P : Program} {H : AH} {T e : Nat} {v : Value} (hT : P.underlying T = some (.slice e)) (he : P.underlying e = some (.int .u16)) (h : AVal P H T v) : ∃ xs : List UInt16, xs.length ≤ maxLen ∧ SL H v (xs.map U16) := by
  unfold AVal at h
  simp only [hT] at h
  obtain ⟨d, h⟩ := h
  unfold AIn at h
  simp only [hT] at h
  rcases h with h | h | ⟨g, parts, h, h0, h1, h2, h3⟩
  · cases h; exact ⟨[], Nat.zero_le _, .inl ⟨rfl, rfl⟩⟩
  · cases h; exact ⟨[], Nat.zero_le _, .inr ⟨0, 0, 0, rfl, .inl rfl⟩⟩
  · cases h
    obtain ⟨xs, e1, e2⟩ := parts16 he parts (fun p hm => (h3 p hm).1)
    rw [e1] at h2
    exact ⟨xs, by rw [e2]; exact h1, SL.whole _ (AH.cells_ro h2) e2.symm⟩
theorem word_of32 {n : Int} (h : (Lit.int .u32 n).wf = true) : ∃ x : UInt32, Value.int .u32 n = U32 x := by
  have h1 : IntKind.u32.min = 0 := by decide
  have h2 : IntKind.u32.max = 4294967295 := by decide
  simp only [Lit.wf, h1, h2, Bool.and_eq_true, decide_eq_true_eq] at h
  refine ⟨UInt32.ofNat n.toNat, ?_⟩
  have e : ((UInt32.ofNat n.toNat).toNat : Int) = n := by
    rw [UInt32.toNat_ofNat', Nat.mod_eq_of_lt (by omega)]; omega
  rw [U32, e]
theorem ain32 {P : Program} {H : AH} {d e : Nat} {p : List Value} (he : P.underlying e = some (.int .u32)) (h : AIn P H d e p) : ∃ x : UInt32, p = [U32 x] := by
  cases d with
  | zero => exact h.elim
  | succ d =>
    unfold AIn at h
    simp only [he] at h
    obtain ⟨n, rfl, hw⟩ := h
    obtain ⟨x, hx⟩ := word_of32 hw
    exact ⟨x, by rw [hx]⟩
theorem parts32 {P : Program} {H : AH} {d e : Nat} (he : P.underlying e = some (.int .u32)) : ∀ parts : List (List Value), (∀ p ∈ parts, AIn P H d e p) → ∃ xs : List UInt32, parts.flatten = xs.map U32 ∧ xs.length = parts.length
  | [], _ => ⟨[], rfl, rfl⟩
  | p :: r, h => by
    obtain ⟨x, rfl⟩ := ain32 he (h p (by simp))
    obtain ⟨xs, h1, h2⟩ := parts32 he r (fun q hq => h q (by simp [hq]))
    exact ⟨x :: xs, by rw [List.flatten_cons, h1]; rfl, by rw [List.length_cons, List.length_cons, h2]⟩
theorem aval32 {P : Program} {H : AH} {e : Nat} {v : Value} (he : P.underlying e = some (.int .u32)) (h : AVal P H e v) : ∃ x : UInt32, v = U32 x := by
  unfold AVal at h
  simp only [he] at h
  obtain ⟨d, h⟩ := h
  obtain ⟨x, hx⟩ := ain32 he h
  exact ⟨x, by cases hx; rfl⟩
theorem avalA32 {P : Program} {H : AH} {T e n : Nat} {v : Value} (hT : P.underlying T = some (.array n e)) (he : P.underlying e = some (.int .u32)) (h : AVal P H T v) : ∃ xs : List UInt32, xs.length = n ∧ v = .agg (xs.map U32).toArray := by
  unfold AVal at h
  simp only [hT] at h
  obtain ⟨acs, d, rfl, h⟩ := h
  unfold AIn at h
  simp only [hT] at h
  obtain ⟨parts, rfl, hl, hp⟩ := h
  obtain ⟨xs, h1, h2⟩ := parts32 he parts (fun p hm => (hp p hm).1)
  exact ⟨xs, by rw [h2, hl], by rw [h1]⟩
theorem avalS32 {P : Program} {H : AH} {T e : Nat} {v : Value} (hT : P.underlying T = some (.slice e)) (he : P.underlying e = some (.int .u32)) (h : AVal P H T v) : ∃ xs : List UInt32, xs.length ≤ maxLen ∧ SL H v (xs.map U32) := by
  unfold AVal at h
  simp only [hT] at h
  obtain ⟨d, h⟩ := h
  unfold AIn at h
  simp only [hT] at h
  rcases h with h | h | ⟨g, parts, h, h0, h1, h2, h3⟩
  · cases h; exact ⟨[], Nat.zero_le _, .inl ⟨rfl, rfl⟩⟩
  · cases h; exact ⟨[], Nat.zero_le _, .inr ⟨0, 0, 0, rfl, .inl rfl⟩⟩
  · cases h
    obtain ⟨xs, e1, e2⟩ := parts32 he parts (fun p hm => (h3 p hm).1)
    rw [e1] at h2
    exact ⟨xs, by rw [e2]; exact h1, SL.whole _ (AH.cells_ro h2) e2.symm⟩
theorem word_of64 {n : Int} (h : (Lit.int .u64 n).wf = true) : ∃ x : UInt64, Value.int .u64 n = U64 x := by
  have h1 : IntKind.u64.min = 0 := by decide
  have h2 : IntKind.u64.max = 18446744073709551615 := by decide
  simp only [Lit.wf, h1, h2, Bool.and_eq_true, decide_eq_true_eq] at h
  refine ⟨UInt64.ofNat n.toNat, ?_⟩
  have e : ((UInt64.ofNat n.toNat).toNat : Int) = n := by
    rw [UInt64.toNat_ofNat', Nat.mod_eq_of_lt (by omega)]; omega
  rw [U64, e]
theorem ain64 {P : Program} {H : AH} {d e : Nat} {p : List Value} (he : P.underlying e = some (.int .u64)) (h : AIn P H d e p) : ∃ x : UInt64, p = [U64 x] := by
  cases d with
  | zero => exact h.elim
  | succ d =>
    unfold AIn at h
    simp only [he] at h
    obtain ⟨n, rfl, hw⟩ := h
    obtain ⟨x, hx⟩ := word_of64 hw
    exact ⟨x, by rw [hx]⟩
theorem parts64 {P : Program} {H : AH} {d e : Nat} (he : P.underlying e = some (.int .u64)) : ∀ parts : List (List Value), (∀ p ∈ parts, AIn P H d e p) → ∃ xs : List UInt64, parts.flatten = xs.map U64 ∧ xs.length = parts.length
  | [], _ => ⟨[], rfl, rfl⟩
  | p :: r, h => by
    obtain ⟨x, rfl⟩ := ain64 he (h p (by simp))
    obtain ⟨xs, h1, h2⟩ := parts64 he r (fun q hq => h q (by simp [hq]))
    exact ⟨x :: xs, by rw [List.flatten_cons, h1]; rfl, by rw [List.length_cons, List.length_cons, h2]⟩
theorem aval64 {P : Program} {H : AH} {e : Nat} {v : Value} (he : P.underlying e = some (.int .u64)) (h : AVal P H e v) : ∃ x : UInt64, v = U64 x := by
  unfold AVal at h
  simp only [he] at h
  obtain ⟨d, h⟩ := h
  obtain ⟨x, hx⟩ := ain64 he h
  exact ⟨x, by cases hx; rfl⟩
theorem avalA64 {P : Program} {H : AH} {T e n : Nat} {v : Value} (hT : P.underlying T = some (.array n e)) (he : P.underlying e = some (.int .u64)) (h : AVal P H T v) : ∃ xs : List UInt64, xs.length = n ∧ v = .agg (xs.map U64).toArray := by
  unfold AVal at h
  simp only [hT] at h
  obtain ⟨acs, d, rfl, h⟩ := h
  unfold AIn at h
  simp only [hT] at h
  obtain ⟨parts, rfl, hl, hp⟩ := h
  obtain ⟨xs, h1, h2⟩ := parts64 he parts (fun p hm => (hp p hm).1)
  exact ⟨xs, by rw [h2, hl], by rw [h1]⟩
theorem avalS64 {P : Program} {H : AH} {T e : Nat} {v : Value} (hT : P.underlying T = some (.slice e)) (he : P.underlying e = some (.int .u64)) (h : AVal P H T v) : ∃ xs : List UInt64, xs.length ≤ maxLen ∧ SL H v (xs.map U64) := by
  unfold AVal at h
  simp only [hT] at h
  obtain ⟨d, h⟩ := h
  unfold AIn at h
  simp only [hT] at h
  rcases h with h | h | ⟨g, parts, h, h0, h1, h2, h3⟩
  · cases h; exact ⟨[], Nat.zero_le _, .inl ⟨rfl, rfl⟩⟩
  · cases h; exact ⟨[], Nat.zero_le _, .inr ⟨0, 0, 0, rfl, .inl rfl⟩⟩
  · cases h
    obtain ⟨xs, e1, e2⟩ := parts64 he parts (fun p hm => (h3 p hm).1)
    rw [e1] at h2
    exact ⟨xs, by rw [e2]; exact h1, SL.whole _ (AH.cells_ro h2) e2.symm⟩
end Go.Proofs.YtldfnfpinemedaaDoor

namespace Go.Proofs.YtldfnfpinemedaaDoor
open Go Go.RowKit
set_option linter.unusedSimpArgs false
set_option linter.unusedVariables false
set_option maxRecDepth 4000
def OS (b : Nat) (H : AH) (v : Value) (vs : List Value) : Prop := (v = .slice none 0 0 ∧ vs = []) ∨ ∃ g, v = .slice (some ⟨g, 0, none⟩) vs.length 1 ∧ H[g]? = some (.own vs) ∧ b ≤ g
theorem OS.nil (b : Nat) (H : AH) : OS b H (.slice none 0 0) [] := .inl ⟨rfl, rfl⟩
theorem OS.mono {b : Nat} {H H' : AH} {v : Value} {vs : List Value} (h : OS b H v vs) (e : Ext H H') : OS b H' v vs := by
  rcases h with h | ⟨g, h1, h2, h3⟩
  · exact .inl h
  · exact .inr ⟨g, h1, e _ _ h2, h3⟩
theorem OS.low {b c : Nat} {H : AH} {v : Value} {vs : List Value} (h : OS b H v vs) (hc : c ≤ b) : OS c H v vs := by
  rcases h with h | ⟨g, h1, h2, h3⟩
  · exact .inl h
  · exact .inr ⟨g, h1, h2, by omega⟩
theorem OS.sl {b : Nat} {H : AH} {v : Value} {vs : List Value} (h : OS b H v vs) : SL H v vs := by
  rcases h with h | ⟨g, h1, h2, h3⟩
  · exact .inl h
  · exact .inr ⟨g, 0, 1, h1, .inr ⟨vs, AH.cells_own h2, by omega, by rw [List.drop_zero]; exact List.take_of_length_le (by omega)⟩⟩
theorem OS.new {b n : Nat} {H : AH} {vs : List Value} (hb : b ≤ H.length) (hn : n = vs.length) : OS b (H ++ [.own vs]) (.slice (some ⟨H.length, 0, none⟩) n 1) vs :=
  .inr ⟨H.length, by rw [hn], gpush _ _, hb⟩
theorem OS.mk {b g n : Nat} {H : AH} {vs : List Value} (h : H[g]? = some (.own vs)) (hb : b ≤ g) (hn : n = vs.length) : OS b H (.slice (some ⟨g, 0, none⟩) n 1) vs :=
  .inr ⟨g, by rw [hn], h, hb⟩
theorem OS.at {b : Nat} {H : AH} {v : Value} {vs : List Value} (h : OS b H v vs) (hn : 0 < vs.length) : ∃ g, v = .slice (some ⟨g, 0, none⟩) vs.length 1 ∧ H[g]? = some (.own vs) ∧ b ≤ g ∧ g < H.length := by
  rcases h with ⟨_, rfl⟩ | ⟨g, h1, h2, h3⟩
  · simp at hn
  · exact ⟨g, h1, h2, h3, got_lt h2⟩
theorem OS.shape {b : Nat} {H : AH} {v : Value} {vs : List Value} (h : OS b H v vs) : v = .slice none 0 0 ∨ ∃ g o n e, v = .slice (some ⟨g, o, none⟩) n e := by
  rcases h with ⟨h, _⟩ | ⟨g, h1, _⟩
  · exact .inl h
  · exact .inr ⟨_, _, _, _, h1⟩
/-- What stays when blocks from b on may be written. -/
def Keeps (b : Nat) (H H' : AH) : Prop := H.length ≤ H'.length ∧ ∀ p, p < b → H'[p]? = H[p]?
theorem Keeps.refl (b : Nat) (H : AH) : Keeps b H H := ⟨Nat.le_refl _, fun _ _ => rfl⟩
theorem Keeps.trans {b : Nat} {H H1 H2 : AH} (h : Keeps b H H1) (k : Keeps b H1 H2) : Keeps b H H2 := ⟨Nat.le_trans h.1 k.1, fun p hp => (k.2 p hp).trans (h.2 p hp)⟩
theorem Keeps.ext {b : Nat} {E H H' : AH} (h : Keeps b H H') (hb : E.length ≤ b) (e : Ext E H) : Ext E H' := fun g x hg => by
  rw [h.2 g (by have := got_lt hg; omega)]; exact e g x hg
theorem Keeps.of_ext {b : Nat} {H H' : AH} (e : Ext H H') (hb : b ≤ H.length) : Keeps b H H' := ⟨e.length, fun p hp => by
  have : H[p]? = some H[p] := List.getElem?_eq_getElem (by omega)
  rw [this]; exact e _ _ this⟩
theorem Keeps.low {b c : Nat} {H H' : AH} (h : Keeps b H H') (hc : c ≤ b) : Keeps c H H' := ⟨h.1, fun p hp => h.2 p (by omega)⟩
theorem Keeps.push {b : Nat} {H H' : AH} (h : Keeps b H H') (hb : b ≤ H.length) (E : AH) : Keeps b H (H' ++ E) := ⟨by rw [List.length_append]; have := h.1; omega, fun p hp => by
  rw [List.getElem?_append_left (by have := h.1; omega)]; exact h.2 p hp⟩
theorem Keeps.set {b : Nat} {H H' : AH} (h : Keeps b H H') {g : Nat} (hg : b ≤ g) (x : ABlk) : Keeps b H (H'.set g x) := ⟨by rw [List.length_set]; exact h.1, fun p hp => by
  rw [List.getElem?_set_ne (by omega)]; exact h.2 p hp⟩
theorem Keeps.get {b p : Nat} {H H' : AH} {x : ABlk} (h : Keeps b H H') (hp : p < b) (hx : H[p]? = some x) : H'[p]? = some x := by rw [h.2 p hp]; exact hx
theorem OS.set {b g : Nat} {H : AH} {vs ws : List Value} (hg : H[g]? = some (.own vs)) (hb : b ≤ g) (hl : ws.length = vs.length) : OS b (H.set g (.own ws)) (.slice (some ⟨g, 0, none⟩) vs.length 1) ws :=
  .inr ⟨g, by rw [hl], by rw [List.getElem?_set_self (got_lt hg)], hb⟩
theorem OS.setn {b g n : Nat} {H : AH} {vs ws : List Value} (hg : H[g]? = some (.own vs)) (hb : b ≤ g) (hl : n = ws.length) : OS b (H.set g (.own ws)) (.slice (some ⟨g, 0, none⟩) n 1) ws :=
  .inr ⟨g, by rw [hl], by rw [List.getElem?_set_self (got_lt hg)], hb⟩
theorem OS.appX {P : Program} {H : AH} {t tx b : Nat} {bytes : Nat} {s x : Value} {xs ys : List Value} (he : elemT P t = some (1, bytes)) (hs : OS b H s xs) (hx : asrcZ P H t tx x 1 bytes = some (ys, ys.length)) (hb : (xs.length + ys.length) * bytes ≤ 140737488355328) (hp : 0 < bytes) (hbl : b ≤ H.length) :
    ∃ s' H', aappend P H t tx s x = some (s', H') ∧ OS b H' s' (xs ++ ys) ∧ Keeps b H H' := by
  by_cases h0 : ys = []
  · subst h0
    refine ⟨s, H, app_noneX he hx hs.shape, by rw [List.append_nil]; exact hs, Keeps.refl _ _⟩
  have hl : 0 < ys.length := List.length_pos_iff.2 h0
  rcases hs with ⟨rfl, rfl⟩ | ⟨g, rfl, hg, hbg⟩
  · refine ⟨_, _, app_nilX he hx hl (by simpa using hb) hp, OS.new hbl rfl, (Keeps.refl _ _).push hbl _⟩
  · refine ⟨_, _, app_ownX he hx hl hg rfl hb hp, .inr ⟨H.length, by rw [List.length_append], ?_, hbl⟩, ((Keeps.refl _ _).set hbg _).push hbl _⟩
    have : H.length = (H.set g ABlk.dead).length := by rw [List.length_set]
    rw [this]; exact gpush _ _
theorem OS.app {P : Program} {H : AH} {t tx b : Nat} {bytes : Nat} {s x : Value} {xs ys : List Value} (he : elemT P t = some (1, bytes)) (ht : sliceT P tx = true) (hs : OS b H s xs) (hx : SL H x ys) (hv : ys.all cellv = true) (hb : (xs.length + ys.length) * bytes ≤ 140737488355328) (hp : 0 < bytes) (hbl : b ≤ H.length) :
    ∃ s' H', aappend P H t tx s x = some (s', H') ∧ OS b H' s' (xs ++ ys) ∧ Keeps b H H' :=
  OS.appX he hs (srcX ht hx hv) hb hp hbl
/-- As OS.app; and all blocks but the slice's own stay. -/
theorem OS.appK {P : Program} {H : AH} {t tx b : Nat} {bytes : Nat} {s x : Value} {xs ys : List Value} (he : elemT P t = some (1, bytes)) (ht : sliceT P tx = true) (hs : OS b H s xs) (hx : SL H x ys) (hv : ys.all cellv = true) (hb : (xs.length + ys.length) * bytes ≤ 140737488355328) (hp : 0 < bytes) (hbl : b ≤ H.length) :
    ∃ s' H', aappend P H t tx s x = some (s', H') ∧ OS b H' s' (xs ++ ys) ∧ Keeps b H H' ∧ ∀ p y, (∀ o n e, s ≠ .slice (some ⟨p, o, none⟩) n e) → H[p]? = some y → H'[p]? = some y := by
  by_cases h0 : ys = []
  · subst h0
    refine ⟨s, H, app_none he ht hx hs.shape, by rw [List.append_nil]; exact hs, Keeps.refl _ _, fun _ _ _ h => h⟩
  have hl : 0 < ys.length := List.length_pos_iff.2 h0
  rcases hs with ⟨rfl, rfl⟩ | ⟨g, rfl, hg, hbg⟩
  · refine ⟨_, _, app_nil he ht hx hv hl (by simpa using hb) hp, OS.new hbl rfl, (Keeps.refl _ _).push hbl _, fun p y _ h => Ext.push _ _ _ _ h⟩
  · refine ⟨_, _, app_own he ht hx hv hl hg rfl hb hp, .inr ⟨H.length, by rw [List.length_append], ?_, hbl⟩, ((Keeps.refl _ _).set hbg _).push hbl _, fun p y hp' h => Ext.push _ _ _ _ ?_⟩
    · have : H.length = (H.set g ABlk.dead).length := by rw [List.length_set]
      rw [this]; exact gpush _ _
    · rw [List.getElem?_set_ne (fun e => hp' 0 xs.length 1 (by rw [e]))]; exact h
/-- One more element. -/
theorem OS.app1 {P : Program} {H : AH} {t tx b : Nat} {bytes : Nat} {s : Value} {xs : List Value} {c : Value} (he : elemT P t = some (1, bytes)) (ht : sliceT P tx = true) (hs : OS b H s xs) (hv : cellv c = true) (hb : (xs.length + 1) * bytes ≤ 140737488355328) (hp : 0 < bytes) (hbl : b ≤ H.length) :
    ∃ s' H', aappend P (H ++ [.own [c]]) t tx s (.slice (some ⟨H.length, 0, none⟩) 1 1) = some (s', H') ∧ OS b H' s' (xs ++ [c]) ∧ Keeps b H H' := by
  have h1 : SL (H ++ [.own [c]]) (.slice (some ⟨H.length, 0, none⟩) 1 1) [c] := (OS.new (b := b) hbl (n := 1) (vs := [c]) rfl).sl
  obtain ⟨s', H', e1, e2, e3⟩ := OS.app he ht (hs.mono (Ext.push H [.own [c]])) h1 (by simp [hv]) (by simpa using hb) hp (by rw [List.length_append]; omega)
  exact ⟨s', H', e1, e2, ((Keeps.refl b H).push hbl _).trans e3⟩
theorem SL.sub {H : AH} {g o n e : Nat} {vs : List Value} (h : SL H (.slice (some ⟨g, o, none⟩) n e) vs) (k m e' : Nat) (hk : k + m ≤ vs.length) : SL H (.slice (some ⟨g, o + k, none⟩) m e') ((vs.drop k).take m) := by
  have hl : ((vs.drop k).take m).length = m := by rw [List.length_take, List.length_drop]; omega
  refine .inr ⟨g, o + k, e', by rw [hl], ?_⟩
  by_cases hm : m = 0
  · left; exact List.eq_nil_of_length_eq_zero (by omega)
  rcases h with ⟨h, _⟩ | ⟨g', o', e'', h, h2⟩
  · cases h
  · cases h
    rcases h2 with h2 | ⟨cs, hc, h1, h2⟩
    · subst h2; simp at hk; omega
    · right
      refine ⟨cs, hc, by omega, ?_⟩
      rw [hl, ← h2, List.drop_take, List.take_take, List.drop_drop, Nat.min_eq_left (by omega)]
theorem SL.subm {α : Type} {f : α → Value} {H : AH} {g o n e : Nat} {xs : List α} (h : SL H (.slice (some ⟨g, o, none⟩) n e) (xs.map f)) (k m e' : Nat) (hk : k + m ≤ xs.length) : SL H (.slice (some ⟨g, o + k, none⟩) m e') (((xs.drop k).take m).map f) := by
  rw [List.map_take, List.map_drop]
  exact h.sub k m e' (by rw [List.length_map]; exact hk)
theorem fillL_succ {α : Type} (f : Nat → α) (z : List α) (i : Nat) : fillL f z i.succ = fillL f z (i + 1) := rfl
theorem fillL_getD {α : Type} (f : Nat → α) (z : List α) (d : α) (i : Nat) (hi : i < z.length) : (fillL f z i).getD i d = z.getD i d := by
  rw [List.getD_eq_getElem?_getD, List.getD_eq_getElem?_getD, fillL_get f z i (by omega), if_neg (by omega)]
theorem SL.setn {H : AH} {v : Value} {vs : List Value} {p : Nat} (h : SL H v vs) (b : ABlk) (hp : ∀ o n e, v ≠ .slice (some ⟨p, o, none⟩) n e) : SL (H.set p b) v vs := by
  rcases h with h | ⟨g, o, e, rfl, h⟩
  · exact .inl h
  · refine .inr ⟨g, o, e, rfl, ?_⟩
    rcases h with h | ⟨cs, hc, h1, h2⟩
    · exact .inl h
    · refine .inr ⟨cs, ?_, h1, h2⟩
      rw [csetn _ _ _ _ (fun e' => hp o vs.length e (by rw [e']))]; exact hc
def zb (n : Nat) : List UInt8 := List.replicate n 0
theorem QO (n : Nat) : List.replicate n (Value.int .u8 0) = (zb n).map U8 := by rw [zb, List.map_replicate]; rfl
theorem zb_length (n : Nat) : (zb n).length = n := List.length_replicate
theorem SL.isSlice {H : AH} {v : Value} {vs : List Value} (h : SL H v vs) : ∃ p n e, v = .slice p n e := by
  rcases h with ⟨rfl, _⟩ | ⟨g, o, e, rfl, _⟩
  · exact ⟨_, _, _, rfl⟩
  · exact ⟨_, _, _, rfl⟩
end Go.Proofs.YtldfnfpinemedaaDoor
