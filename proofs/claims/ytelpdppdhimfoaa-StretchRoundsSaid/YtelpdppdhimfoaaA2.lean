/- Words of the proofs: what the pure operations come to over abstract values, and that the machine comes to what they stand for. -/
import Derived.Test.YtelpdppdhimfoaaA1
namespace Go.Proofs.Ytelpdppdhimfoaa
open Go
set_option linter.unusedSimpArgs false
set_option linter.unusedVariables false

def szT (P : Program) (t : TypeId) : Option Nat := (P.info? t).map (·.size)
def arrT (P : Program) (t : TypeId) : Option (Nat × Nat) :=
  match P.underlying t with
  | some (.array n e) => (szT P e).map fun s => (n, s)
  | _ => none
def slcT (P : Program) (t : TypeId) : Option Nat :=
  match P.underlying t with
  | some (.slice e) => szT P e
  | _ => none
def aggT (P : Program) (t : TypeId) : Option (Option Nat) :=
  match P.underlying t with
  | some (.struct _) | some (.array _ _) => (szT P t).map some
  | some _ => some none
  | none => none
def fldT (P : Program) (t : TypeId) (f : Nat) : Option (Nat × TypeId) :=
  match P.underlying t with
  | some (.struct fs) => (fs[f]?).map fun x => (x.offset, x.type)
  | _ => none
def intT (P : Program) (t : TypeId) : Option IntKind :=
  match P.underlying t with
  | some (.int k) => some k
  | _ => none
def strT (P : Program) (t : TypeId) : Bool := P.underlying t matches some .string
def boolT (P : Program) (t : TypeId) : Bool := P.underlying t matches some .bool
def knownT (P : Program) (t : TypeId) : Bool := (P.underlying t).isSome
def ifaceT (P : Program) (t : TypeId) : Bool := P.underlying t matches some (.interface _)
def sliceT (P : Program) (t : TypeId) : Bool := P.underlying t matches some (.slice _)

theorem szT_spec {P : Program} {t : TypeId} {n : Nat} (h : szT P t = some n) (W : World) : (sizeOf t).run P W = .ok n W := by
  unfold szT at h
  cases hi : P.info? t with
  | none => simp [hi] at h
  | some i => simp [hi] at h; subst h; simp [sizeOf, typeInfo, hi]
theorem arrT_spec {P : Program} {t : TypeId} {n s : Nat} (h : arrT P t = some (n, s)) : ∃ e, P.underlying t = some (.array n e) ∧ szT P e = some s := by
  unfold arrT at h
  split at h
  · rename_i m e hu
    cases hs : szT P e with
    | none => simp [hs] at h
    | some s' => simp [hs] at h; obtain ⟨rfl, rfl⟩ := h; exact ⟨e, hu, hs⟩
  · cases h
theorem slcT_spec {P : Program} {t : TypeId} {s : Nat} (h : slcT P t = some s) : ∃ e, P.underlying t = some (.slice e) ∧ szT P e = some s := by
  unfold slcT at h
  split at h
  · rename_i e hu; exact ⟨e, hu, h⟩
  · cases h
theorem fldT_spec {P : Program} {t : TypeId} {f o : Nat} {T : TypeId} (h : fldT P t f = some (o, T)) : ∃ fs x, P.underlying t = some (.struct fs) ∧ fs[f]? = some x ∧ x.offset = o ∧ x.type = T := by
  unfold fldT at h
  split at h
  · rename_i fs hu
    cases hx : fs[f]? with
    | none => simp [hx] at h
    | some x => simp [hx] at h; exact ⟨fs, x, hu, hx, h.1, h.2⟩
  · cases h
theorem intT_spec {P : Program} {t : TypeId} {k : IntKind} (h : intT P t = some k) : P.underlying t = some (.int k) := by
  unfold intT at h
  split at h
  · rename_i k' hu; cases h; exact hu
  · cases h
theorem aggT_spec {P : Program} {t : TypeId} {x : Option Nat} (h : aggT P t = some x) (W : World) : (isAgg t).run P W = .ok x.isSome W ∧ ∀ n, x = some n → szT P t = some n := by
  unfold aggT at h
  split at h
  · rename_i fs hu
    cases hs : szT P t with
    | none => simp [hs] at h
    | some s => simp [hs] at h; subst h; exact ⟨by simp [isAgg, run_underlying hu], fun n hn => by cases hn; rfl⟩
  · rename_i n e hu
    cases hs : szT P t with
    | none => simp [hs] at h
    | some s => simp [hs] at h; subst h; exact ⟨by simp [isAgg, run_underlying hu], fun n hn => by cases hn; rfl⟩
  · rename_i d h1 h2 hu
    cases h
    refine ⟨?_, fun n hn => by cases hn⟩
    unfold isAgg
    rw [Sem.run_bind, run_underlying hu W]
    cases d <;> first | rfl | exact absurd rfl (h1 _) | exact absurd rfl (h2 _ _)
  · cases h

/-! ### integers, strings, bools -/
def aint (op : BinOp) (k : IntKind) (a b : Int) : Option Value :=
  match op with
  | .add => some (.int k (k.wrap (a + b)))
  | .sub => some (.int k (k.wrap (a - b)))
  | .mul => some (.int k (k.wrap (a * b)))
  | .quo => if b = 0 then none else some (.int k (k.wrap (a.tdiv b)))
  | .rem => if b = 0 then none else some (.int k (a.tmod b))
  | .and => some (.int k (bits .and k a b))
  | .or => some (.int k (bits .or k a b))
  | .xor => some (.int k (bits .xor k a b))
  | .andNot => some (.int k (bits .andNot k a b))
  | .eql => some (.bool (a == b))
  | .neq => some (.bool (a != b))
  | .lss => some (.bool (a < b))
  | .leq => some (.bool (a ≤ b))
  | .gtr => some (.bool (a > b))
  | .geq => some (.bool (a ≥ b))
  | _ => none
def ashift (op : BinOp) (k : IntKind) (a b : Int) : Option Value :=
  if b < 0 then none else
  match op with
  | .shl => some (.int k (k.wrap (a * 2 ^ min b.toNat k.bits)))
  | .shr => some (.int k (a / 2 ^ min b.toNat k.bits))
  | _ => none
def astr (op : BinOp) (a b : ByteArray) : Option Value :=
  match op with
  | .add => if a.size + b.size ≤ 9223372036854775807 then some (.string (a ++ b)) else none
  | .eql => some (.bool (a.toList == b.toList))
  | .neq => some (.bool !(a.toList == b.toList))
  | .lss => some (.bool (Op.bytesLess a.toList b.toList))
  | .leq => some (.bool (Op.bytesLess a.toList b.toList || a.toList == b.toList))
  | .gtr => some (.bool !(Op.bytesLess a.toList b.toList || a.toList == b.toList))
  | .geq => some (.bool !(Op.bytesLess a.toList b.toList))
  | _ => none
/-- '==' with nil: is the other side nil? -/
def anil (x y : Value) : Option Bool :=
  match x, y with
  | .slice none 0 0, .slice none 0 0 => some true
  | .slice none 0 0, .slice (some _) _ _ => some false
  | .slice (some _) _ _, .slice none 0 0 => some false
  | .pointer none, .pointer none => some true
  | .pointer none, .pointer (some _) => some false
  | .pointer (some _), .pointer none => some false
  | .nilIface, .iface _ _ => some false
  | .iface _ _, .nilIface => some false
  | _, _ => none
def nilTy (P : Program) (t : TypeId) (x : Value) : Bool :=
  match P.underlying t, x with
  | some (.slice _), .slice .. => true
  | some (.pointer _), .pointer .. => true
  | some (.interface _), .nilIface => true
  | some (.interface _), .iface .. => true
  | _, _ => false
def abin (P : Program) (op : BinOp) (t : TypeId) (x y : Value) : Option Value :=
  match x, y with
  | .int k a, .int k' b =>
    match op with
    | .shl | .shr => ashift op k a b
    | _ => if k = k' then aint op k a b else none
  | .string a, .string b => astr op a b
  | .bool a, .bool b => if boolT P t then (match op with | .eql => some (.bool (a == b)) | .neq => some (.bool !(a == b)) | _ => none) else none
  | _, _ => if nilTy P t x then (match op with | .eql => (anil x y).map .bool | .neq => (anil x y).map fun b => .bool !b | _ => none) else none

theorem aint_sound {P : Program} {op : BinOp} {k : IntKind} {a b : Int} {t : TypeId} {v : Value} (h : aint op k a b = some v) (h1 : op ≠ .shl) (h2 : op ≠ .shr) (W : World) : (binOp op t (.int k a) (.int k b)).run P W = .ok v W := by
  cases op <;> simp [aint] at h <;> first | exact absurd rfl h1 | exact absurd rfl h2 | skip
  all_goals first
    | (subst h; simp [go_sem]; done)
    | (obtain ⟨hb, rfl⟩ := h; simp [go_sem, hb]; done)
    | skip
theorem ashift_sound {P : Program} {op : BinOp} {k k' : IntKind} {a b : Int} {t : TypeId} {v : Value} (h : ashift op k a b = some v) (W : World) : (binOp op t (.int k a) (.int k' b)).run P W = .ok v W := by
  unfold ashift at h
  split at h
  · cases h
  · rename_i hb
    have hb' : 0 ≤ b := by omega
    cases op <;> simp at h
    · subst h; rw [binOp_shl, shift_shl_any _ _ _ _ hb']; rfl
    · subst h; rw [binOp_shr, shift_shr_any _ _ _ _ hb']; rfl
theorem astr_sound {P : Program} {op : BinOp} {a b : ByteArray} {t : TypeId} {v : Value} (h : astr op a b = some v) (W : World) : (binOp op t (.string a) (.string b)).run P W = .ok v W := by
  cases op <;> simp [astr] at h
  case add =>
    obtain ⟨hl, rfl⟩ := h
    simp only [binOp, Op.stringOp]
    rw [if_neg (by simp; omega)]
    rfl
  all_goals (subst h; simp [binOp, Op.stringOp])

theorem equal_of_in {P : Program} {t : TypeId} {x y : Value} {b : Bool} {W : World} (h : ∀ d, (Op.equalIn (d + 1) t x y).run P W = .ok b W) : (Op.equal t x y).run P W = .ok b W := h 9999
theorem anil_sound {P : Program} {φ : Phi} {op : BinOp} {t : TypeId} {x y x' y' v : Value} (hn : nilTy P t x = true) (h : (match op with | .eql => (anil x y).map Value.bool | .neq => (anil x y).map fun b => Value.bool !b | _ => none) = some v)
    (hx : VR φ x x') (hy : VR φ y y') (W : World) : (binOp op t x' y').run P W = .ok v W := by
  have main : ∀ b, anil x y = some b → (∀ d, (Op.equalIn (d + 1) t x' y').run P W = .ok b W) ∧ (∀ k n, x' ≠ .int k n) ∧ (∀ s, x' ≠ .string s) ∧ (∀ k n, x' ≠ .float k n) ∧ (∀ k n m, x' ≠ .complex k n m) := by
    intro b hb
    unfold nilTy at hn
    split at hn
    case h_5 => cases hn
    all_goals
      rename_i hu
      unfold anil at hb
      split at hb <;> first | cases hb | skip
      all_goals
        (rename_i heq; cases heq) <;>
        (cases hx <;> cases hy <;>
         (refine ⟨fun d => ?_, by intros; simp, by intros; simp, by intros; simp, by intros; simp⟩
          simp only [Op.equalIn, Sem.run_bind, run_underlying hu, Result.andThen_ok]
          rfl))
  cases hb : anil x y with
  | none => rw [hb] at h; cases op <;> simp at h
  | some b =>
    obtain ⟨he, h1, h2, h3, h4⟩ := main b hb
    replace he := equal_of_in he
    rw [hb] at h
    cases op <;> simp at h <;> subst h
    · cases x' <;> first | exact absurd rfl (h1 _ _) | exact absurd rfl (h2 _) | exact absurd rfl (h3 _ _) | exact absurd rfl (h4 _ _ _) | (simp only [binOp]; simp [he])
    · cases x' <;> first | exact absurd rfl (h1 _ _) | exact absurd rfl (h2 _) | exact absurd rfl (h3 _ _) | exact absurd rfl (h4 _ _ _) | (simp only [binOp]; simp [he])
end Go.Proofs.Ytelpdppdhimfoaa
