/- '==' of arrays of whole numbers. -/
import Derived.Test.YtelpdppdhimfoaaC3
namespace Go.Proofs.Ytelpdppdhimfoaa
open Go Go.RowKit
set_option linter.unusedSimpArgs false
set_option linter.unusedVariables false
theorem mapM_some {α β : Type} {f : α → Option β} {g : α → β} : ∀ (l : List α), (∀ a ∈ l, f a = some (g a)) → l.mapM f = some (l.map g)
  | [], _ => rfl
  | a :: r, h => by
    rw [List.mapM_cons, h a (by simp), mapM_some r (fun b hb => h b (by simp [hb]))]
    rfl
theorem keyLits_words {P : Program} {T e n : Nat} {k : IntKind} (hT : P.underlying T = some (.array n e)) (he : P.underlying e = some (.int k)) (hc : P.cellsOf e = 1) (hcT : P.cellsOf T = n) {α : Type} (f : α → Int) (hf : ∀ a, (Lit.int k (f a)).wf = true) (xs : List α) (hx : xs.length = n) :
    P.keyLits 8 T (xs.map fun a => Value.int k (f a)) = some (xs.map fun a => Lit.int k (f a)) := by
  unfold Program.keyLits
  simp only [hT, hcT, List.length_map, hx, if_true, hc, Nat.mul_one]
  have key : ∀ i ∈ List.range n, P.keyLits 7 e (List.take 1 (List.drop i (xs.map fun a => Value.int k (f a)))) = some ((xs.map fun a => [Lit.int k (f a)]).getD i []) := by
    intro i hi
    have hi' : i < xs.length := by rw [hx]; exact List.mem_range.1 hi
    have e1 : List.take 1 (List.drop i (xs.map fun a => Value.int k (f a))) = [Value.int k (f xs[i])] := by
      rw [List.drop_eq_getElem_cons (by rw [List.length_map]; exact hi')]
      simp
    rw [e1]
    unfold Program.keyLits
    simp only [he, hf, and_self, if_true]
    rw [List.getD_eq_getElem?_getD, List.getElem?_map, List.getElem?_eq_getElem hi']
    rfl
  rw [mapM_some _ key, Option.map_some]
  congr 1
  have e2 : (List.range n).map (fun i => (xs.map fun a => [Lit.int k (f a)]).getD i []) = xs.map fun a => [Lit.int k (f a)] := by
    apply List.ext_getElem?
    intro i
    by_cases h : i < n
    · rw [List.getElem?_map, List.getElem?_range h, Option.map_some, List.getD_eq_getElem?_getD, List.getElem?_map, List.getElem?_eq_getElem (by omega)]; rfl
    · rw [List.getElem?_eq_none (by simp; omega), List.getElem?_eq_none (by simp; omega)]
  rw [e2]
  clear e2 key hx
  induction xs with
  | nil => rfl
  | cons a r ih => simp only [List.map_cons, List.flatten_cons, List.singleton_append, ih]
theorem aeq_words {P : Program} {T e n : Nat} {k : IntKind} (hT : P.underlying T = some (.array n e)) (he : P.underlying e = some (.int k)) (hc : P.cellsOf e = 1) (hcT : P.cellsOf T = n) (hg : P.eqGuardType P.depth T = false) {α : Type} [DecidableEq α] (f : α → Int) (hf : ∀ a, (Lit.int k (f a)).wf = true) (hi : ∀ a b, f a = f b → a = b)
    (xs ys : List α) (hx : xs.length = n) (hy : ys.length = n) : aeqAgg P T (xs.map fun a => Value.int k (f a)).toArray (ys.map fun a => Value.int k (f a)).toArray = some (decide (xs = ys)) := by
  unfold aeqAgg
  have h1 : ∀ l : List α, (l.map fun a => Value.int k (f a)).toArray.all scalarv = true := fun l => by
    rw [List.all_toArray, List.all_map]; simp [scalarv]
  have h2 : P.keyTypeAt 8 T = true := by unfold Program.keyTypeAt; simp only [hT]; unfold Program.keyTypeAt; simp only [he]
  have h3 : ∀ l : List α, l.length = n → (Value.agg (l.map fun a => Value.int k (f a)).toArray).formed P T = true := fun l hl => by
    unfold Value.formed; simp only [hT, hcT]; simp [hl]
  rw [if_pos (by rw [h1, h1, h2, hg, h3 _ hx, h3 _ hy]; rfl)]
  simp only [keyLits_words hT he hc hcT f hf xs hx, keyLits_words hT he hc hcT f hf ys hy]
  congr 1
  rw [decide_eq_decide]
  constructor
  · intro h
    have : ∀ (xs ys : List α), (xs.map fun a => Lit.int k (f a)) = (ys.map fun a => Lit.int k (f a)) → xs = ys := by
      intro xs
      induction xs with
      | nil => intro ys h; cases ys with
        | nil => rfl
        | cons b s => cases h
      | cons a r ih => intro ys h; cases ys with
        | nil => cases h
        | cons b s =>
          simp only [List.map_cons, List.cons.injEq, Lit.int.injEq, true_and] at h
          rw [hi _ _ h.1, ih _ h.2]
    exact this _ _ h
  · rintro rfl; rfl
theorem wf8 (x : UInt8) : (Lit.int .u8 (x.toNat : Int)).wf = true := by
  have := x.toNat_lt
  have h1 : IntKind.u8.min = 0 := by decide
  have h2 : IntKind.u8.max = 255 := by decide
  simp only [Lit.wf, h1, h2, Bool.and_eq_true, decide_eq_true_eq]; omega
theorem inj8 (x y : UInt8) (h : (x.toNat : Int) = (y.toNat : Int)) : x = y := UInt8.toNat_inj.1 (by omega)
theorem wf16 (x : UInt16) : (Lit.int .u16 (x.toNat : Int)).wf = true := by
  have := x.toNat_lt
  have h1 : IntKind.u16.min = 0 := by decide
  have h2 : IntKind.u16.max = 65535 := by decide
  simp only [Lit.wf, h1, h2, Bool.and_eq_true, decide_eq_true_eq]; omega
theorem inj16 (x y : UInt16) (h : (x.toNat : Int) = (y.toNat : Int)) : x = y := UInt16.toNat_inj.1 (by omega)
theorem wf32 (x : UInt32) : (Lit.int .u32 (x.toNat : Int)).wf = true := by
  have := x.toNat_lt
  have h1 : IntKind.u32.min = 0 := by decide
  have h2 : IntKind.u32.max = 4294967295 := by decide
  simp only [Lit.wf, h1, h2, Bool.and_eq_true, decide_eq_true_eq]; omega
theorem inj32 (x y : UInt32) (h : (x.toNat : Int) = (y.toNat : Int)) : x = y := UInt32.toNat_inj.1 (by omega)
theorem wf64 (x : UInt64) : (Lit.int .u64 (x.toNat : Int)).wf = true := by
  have := x.toNat_lt
  have h1 : IntKind.u64.min = 0 := by decide
  have h2 : IntKind.u64.max = 18446744073709551615 := by decide
  simp only [Lit.wf, h1, h2, Bool.and_eq_true, decide_eq_true_eq]; omega
theorem inj64 (x y : UInt64) (h : (x.toNat : Int) = (y.toNat : Int)) : x = y := UInt64.toNat_inj.1 (by omega)
end Go.Proofs.Ytelpdppdhimfoaa
