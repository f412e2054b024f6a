/- '==' of arrays and structs of whole numbers, bools and strings. -/
import Derived.Test.YtldfnfpinemedaaDoorC7
namespace Go.Proofs.YtldfnfpinemedaaDoor
open Go Go.RowKit
set_option linter.unusedSimpArgs false
set_option linter.unusedVariables false
set_option maxRecDepth 4000
def litC : Value → Lit
  | .bool b => .bool b
  | .int k n => .int k n
  | .string s => .string s.data.toList
  | _ => .bool false
/-- Cells of a type that may be compared. -/
def KIn (P : Program) : Nat → TypeId → List Value → Prop
  | 0, _, _ => False
  | d + 1, t, cs => match P.underlying t with
    | some .bool => ∃ b, cs = [.bool b]
    | some (.int k) => ∃ n, cs = [.int k n] ∧ (Lit.int k n).wf = true
    | some .string => ∃ s, cs = [.string s] ∧ s.size ≤ maxLen
    | some (.array n e) => cs.length = P.cellsOf t ∧ ((List.range n).map fun i => (cs.drop (i * P.cellsOf e)).take (P.cellsOf e)).flatten = cs ∧ ∀ i, i < n → KIn P d e ((cs.drop (i * P.cellsOf e)).take (P.cellsOf e))
    | some (.struct fs) => cs.length = P.cellsOf t ∧ fs.all (·.name != "_") = true ∧ (fs.toList.map fun f => (cs.drop f.offset).take (P.cellsOf f.type)).flatten = cs ∧ ∀ f, f ∈ fs.toList → KIn P d f.type ((cs.drop f.offset).take (P.cellsOf f.type))
    | _ => False
theorem map_flatten' {α β : Type} (g : α → β) (l : List (List α)) : (l.map (List.map g)).flatten = l.flatten.map g := by
  induction l with
  | nil => rfl
  | cons a r ih => simp only [List.map_cons, List.flatten_cons, List.map_append, ih]
theorem keyLits_kin {P : Program} : ∀ (d : Nat) (t : TypeId) (cs : List Value), KIn P d t cs → P.keyLits d t cs = some (cs.map litC) ∧ cs.all scalarv = true
  | 0, _, _, h => h.elim
  | d + 1, t, cs, h => by
    unfold KIn at h
    unfold Program.keyLits
    split at h
    · rename_i hu
      obtain ⟨b, rfl⟩ := h
      simp only [hu]
      exact ⟨rfl, rfl⟩
    · rename_i k hu
      obtain ⟨n, rfl, hw⟩ := h
      simp only [hu, hw, and_self, if_true]
      exact ⟨rfl, rfl⟩
    · rename_i hu
      obtain ⟨s, rfl, hs⟩ := h
      simp only [hu, hs, if_true]
      exact ⟨rfl, rfl⟩
    · rename_i n e hu
      obtain ⟨h1, h2, h3⟩ := h
      have key : ∀ i ∈ List.range n, P.keyLits d e ((cs.drop (i * P.cellsOf e)).take (P.cellsOf e)) = some (((cs.drop (i * P.cellsOf e)).take (P.cellsOf e)).map litC) := fun i hi => (keyLits_kin d e _ (h3 i (List.mem_range.1 hi))).1
      constructor
      · simp only [hu]
        rw [if_pos h1, mapM_some _ key, Option.map_some, show ((List.range n).map fun i => ((cs.drop (i * P.cellsOf e)).take (P.cellsOf e)).map litC) = ((List.range n).map fun i => (cs.drop (i * P.cellsOf e)).take (P.cellsOf e)).map (List.map litC) by rw [List.map_map]; rfl, map_flatten', h2]
      · rw [← h2, List.all_eq_true]
        intro v hv
        obtain ⟨p, hp, hvp⟩ := List.mem_flatten.1 hv
        obtain ⟨i, hi, rfl⟩ := List.mem_map.1 hp
        exact List.all_eq_true.1 (keyLits_kin d e _ (h3 i (List.mem_range.1 hi))).2 v hvp
    · rename_i fs hu
      obtain ⟨h1, h0, h2, h3⟩ := h
      have key : ∀ f ∈ fs.toList, P.keyLits d f.type ((cs.drop f.offset).take (P.cellsOf f.type)) = some (((cs.drop f.offset).take (P.cellsOf f.type)).map litC) := fun f hf => (keyLits_kin d _ _ (h3 f hf)).1
      constructor
      · simp only [hu]
        rw [if_pos ⟨h1, h0⟩, mapM_some _ key, Option.map_some, show (fs.toList.map fun f => ((cs.drop f.offset).take (P.cellsOf f.type)).map litC) = (fs.toList.map fun f => (cs.drop f.offset).take (P.cellsOf f.type)).map (List.map litC) by rw [List.map_map]; rfl, map_flatten', h2]
      · rw [← h2, List.all_eq_true]
        intro v hv
        obtain ⟨p, hp, hvp⟩ := List.mem_flatten.1 hv
        obtain ⟨f, hf, rfl⟩ := List.mem_map.1 hp
        exact List.all_eq_true.1 (keyLits_kin d _ _ (h3 f hf)).2 v hvp
    · exact h.elim
theorem litC_inj {u v : Value} (hu : scalarv u = true) (hv : scalarv v = true) (h : litC u = litC v) : u = v := by
  cases u <;> simp only [scalarv, reduceCtorEq, Bool.false_eq_true] at hu <;> cases v <;> simp only [scalarv, reduceCtorEq, Bool.false_eq_true] at hv <;> simp only [litC, reduceCtorEq, Lit.bool.injEq, Lit.int.injEq, Lit.string.injEq] at h
  · rw [h]
  · rw [h.1, h.2]
  · rename_i a b
    congr 1
    have : a.data = b.data := Array.ext' h
    cases a; cases b; cases this; rfl
theorem litC_map {xs ys : List Value} (hx : xs.all scalarv = true) (hy : ys.all scalarv = true) (h : xs.map litC = ys.map litC) : xs = ys := by
  induction xs generalizing ys with
  | nil => cases ys with
    | nil => rfl
    | cons _ _ => cases h
  | cons x xs ih => cases ys with
    | nil => cases h
    | cons y ys =>
      simp only [List.map_cons, List.cons.injEq, List.all_cons, Bool.and_eq_true] at h hx hy
      rw [litC_inj hx.1 hy.1 h.1, ih hx.2 hy.2 h.2]
def aggK (P : Program) (T : TypeId) : Bool := match P.underlying T with | some (.struct _) => true | some (.array _ _) => true | _ => false
theorem formed_kin {P : Program} {d : Nat} {T : TypeId} {cs : List Value} (h : KIn P d T cs) (ha : aggK P T = true) : (Value.agg cs.toArray).formed P T = true := by
  cases d with
  | zero => exact h.elim
  | succ d =>
    unfold KIn at h
    unfold aggK at ha
    unfold Value.formed
    split at h <;> rename_i hu <;> simp only [hu, Bool.false_eq_true] at ha ⊢
    · simp [h.1]
    · simp [h.1]
theorem aeq_kin {P : Program} {T : TypeId} {xs ys : List Value} (hx : KIn P 8 T xs) (hy : KIn P 8 T ys) (hk : P.keyTypeAt 8 T = true) (hg : P.eqGuardType P.depth T = false) (ha : aggK P T = true) :
    aeqAgg P T xs.toArray ys.toArray = some (@decide (xs = ys) (Classical.propDecidable _)) := by
  obtain ⟨k1, s1⟩ := keyLits_kin 8 T xs hx
  obtain ⟨k2, s2⟩ := keyLits_kin 8 T ys hy
  unfold aeqAgg
  rw [if_pos (by rw [hk, hg, formed_kin hx ha, formed_kin hy ha, List.all_toArray, List.all_toArray, s1, s2]; rfl)]
  simp only [k1, k2]
  congr 1
  by_cases e : xs = ys
  · subst e; simp
  · have : xs.map litC ≠ ys.map litC := fun h => e (litC_map s1 s2 h)
    simp [e, this]
theorem aeq_same {P : Program} {T : TypeId} {xs : List Value} (hx : KIn P 8 T xs) (hk : P.keyTypeAt 8 T = true) (hg : P.eqGuardType P.depth T = false) (ha : aggK P T = true) : aeqAgg P T xs.toArray xs.toArray = some true := by
  rw [aeq_kin hx hx hk hg ha]; simp
theorem aeq_other {P : Program} {T : TypeId} {xs ys : List Value} (hx : KIn P 8 T xs) (hy : KIn P 8 T ys) (hk : P.keyTypeAt 8 T = true) (hg : P.eqGuardType P.depth T = false) (ha : aggK P T = true) (h : xs ≠ ys) : aeqAgg P T xs.toArray ys.toArray = some false := by
  rw [aeq_kin hx hy hk hg ha]; simp [h]
theorem kin_int {P : Program} {d e : Nat} {k : IntKind} {n : Int} (he : P.underlying e = some (.int k)) (hw : (Lit.int k n).wf = true) : KIn P (d + 1) e [.int k n] := by
  unfold KIn; simp only [he]; exact ⟨n, rfl, hw⟩
theorem kin_bytes {P : Program} {d e T n : Nat} (hT : P.underlying T = some (.array n e)) (he : P.underlying e = some (.int .u8)) (hc : P.cellsOf e = 1) (hcT : P.cellsOf T = n) (xs : List UInt8) (hx : xs.length = n) : KIn P (d + 2) T (xs.map U8) := by
  have chunk : ∀ i, i < n → ((xs.map U8).drop (i * 1)).take 1 = [U8 (xs.getD i 0)] := fun i hi => by
    rw [Nat.mul_one, List.drop_eq_getElem_cons (by rw [List.length_map, hx]; exact hi), List.getD_eq_getElem?_getD, List.getElem?_eq_getElem (by omega)]
    simp
  unfold KIn
  simp only [hT, hc, hcT]
  refine ⟨by rw [List.length_map, hx], ?_, fun i hi => ?_⟩
  · rw [List.map_congr_left (g := fun i => [U8 (xs.getD i 0)]) fun i hi => chunk i (List.mem_range.1 hi)]
    subst hx
    clear chunk hT hcT
    apply List.ext_getElem?
    intro i
    rw [show ((List.range xs.length).map fun i => [U8 (xs.getD i 0)]) = ((List.range xs.length).map fun i => U8 (xs.getD i 0)).map fun v => [v] by rw [List.map_map]; rfl]
    rw [show ∀ l : List Value, (l.map fun v => [v]).flatten = l from fun l => by induction l with | nil => rfl | cons a r ih => simp only [List.map_cons, List.flatten_cons, ih]; rfl]
    by_cases h : i < xs.length
    · rw [List.getElem?_map, List.getElem?_range h, Option.map_some, mg8 _ _ h]
    · rw [List.getElem?_eq_none (by simp; omega), List.getElem?_eq_none (by simp; omega)]
  · rw [chunk i hi]
    exact kin_int he (wf8 _)
theorem wfi (n : Int) (h0 : -9223372036854775808 ≤ n) (h1 : n ≤ 9223372036854775807) : (Lit.int .i64 n).wf = true := by
  have h2 : IntKind.i64.min = -9223372036854775808 := by decide
  have h3 : IntKind.i64.max = 9223372036854775807 := by decide
  simp only [Lit.wf, h2, h3, Bool.and_eq_true, decide_eq_true_eq]; omega
end Go.Proofs.YtldfnfpinemedaaDoor
