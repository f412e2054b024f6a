/- anchor, plainly: an anchor, its cells, its bytes, the anchor of bytes. -/
import Derived.Test.YtfhbieimffjjkaaDoorPk1
import Derived.Test.YtfhbieimffjjkaaDoorC8
namespace Go.Proofs.YtfhbieimffjjkaaDoor
open Go Go.RowKit
set_option linter.unusedSimpArgs false
set_option linter.unusedVariables false
set_option maxRecDepth 4000
structure An where
  v : Int
  pg : Int
  ep : UInt32
  hp : Int
  hd : List UInt8
  rp : Int
  re : UInt32
  rt : List UInt8
  cm : UInt64
/-- An anchor's cells. -/
def ac (a : An) : List Value := [.int .i64 a.v, .int .i64 a.pg, U32 a.ep, .int .i64 a.hp] ++ (a.hd.map U8 ++ ([.int .i64 a.rp, U32 a.re] ++ (a.rt.map U8 ++ [U64 a.cm])))
def inI (n : Int) : Prop := -9223372036854775808 ≤ n ∧ n ≤ 9223372036854775807
def An.wf (a : An) : Prop := a.hd.length = 32 ∧ a.rt.length = 32 ∧ inI a.v ∧ inI a.pg ∧ inI a.hp ∧ inI a.rp
def An.may (a : An) : Prop := (1 ≤ a.v ∧ a.v ≤ 2) ∧ (1 ≤ a.pg ∧ a.pg ≤ 216) ∧ (0 ≤ a.hp ∧ a.hp ≤ 1) ∧ (0 ≤ a.rp ∧ a.rp ≤ 1) ∧ a.re.toNat ≤ a.ep.toNat
instance (a : An) : Decidable a.may := inferInstanceAs (Decidable (_ ∧ _))
def An.core (a : An) : List UInt8 := numB (w64 a.v) 1 ++ numB (w64 a.pg) 2 ++ numB a.ep.toUInt64 4 ++ numB (w64 a.hp) 1 ++ a.hd ++ numB (w64 a.rp) 1 ++ numB a.re.toUInt64 4 ++ a.rt ++ numB a.cm 8
def An.bytes (a : An) : List UInt8 := a.core ++ zb 43
def An.zero : An := ⟨0, 0, 0, 0, zb 32, 0, 0, zb 32, 0⟩
def An.of (b : List UInt8) : An := ⟨((leN ((b.drop 0).take 1)).toNat : Int), ((leN ((b.drop 1).take 2)).toNat : Int), (leN ((b.drop 3).take 4)).toUInt32, ((leN ((b.drop 7).take 1)).toNat : Int), (b.drop 8).take 32, ((leN ((b.drop 40).take 1)).toNat : Int), (leN ((b.drop 41).take 4)).toUInt32, (b.drop 45).take 32, leN ((b.drop 77).take 8)⟩
def layA (a : An) : List UInt8 := if a.may then a.bytes else []
def layE (a : An) : Int := if a.may then 0 else 1
def okA (b : List UInt8) : Prop := b.length = 128 ∧ zer (b.drop 85) = true ∧ (An.of b).may
instance (b : List UInt8) : Decidable (okA b) := inferInstanceAs (Decidable (_ ∧ _))
def parA (b : List UInt8) : An := if okA b then An.of b else An.zero
def parE (b : List UInt8) : Int := if okA b then 0 else if b.length < 128 then 4 else 3
theorem core_length {a : An} (h : a.wf) : a.core.length = 85 := by
  simp only [An.core, List.length_append, numB_length, h.1, h.2.1]
theorem abytes_length {a : An} (h : a.wf) : a.bytes.length = 128 := by
  rw [An.bytes, List.length_append, core_length h, zb_length]
theorem numB_leN (l : List UInt8) : l.length ≤ 8 → numB (leN l) l.length = l := by
  induction l with
  | nil => intro _; rfl
  | cons x l ih =>
    intro h
    rw [List.length_cons] at h
    have hl := leN_cons x l (by omega)
    have h1 : (leN (x :: l)).toUInt8 = x := by
      rw [← UInt8.toNat_inj, UInt64.toNat_toUInt8, leN_toNat _ (by rw [List.length_cons]; omega), leNat]
      have := x.toNat_lt; omega
    have h2 : leN (x :: l) >>> 8 = leN l := by
      rw [← UInt64.toNat_inj, sh8, leN_toNat _ (by rw [List.length_cons]; omega), leN_toNat _ (by omega), leNat]
      have := x.toNat_lt; omega
    rw [List.length_cons, numB, h1, h2, ih (by omega)]
theorem numB_leNk (l : List UInt8) (k : Nat) (h : l.length = k) (hk : k ≤ 8) : numB (leN l) k = l := by subst h; exact numB_leN l hk
theorem w64_toNat (x : UInt64) : w64 (x.toNat : Int) = x := by
  rw [w64, ← UInt64.toNat_inj, UInt64.toNat_ofNat']
  have := x.toNat_lt
  omega
theorem to32_64 (x : UInt64) (h : x.toNat < 4294967296) : x.toUInt32.toUInt64 = x := by
  rw [← UInt64.toNat_inj, UInt32.toNat_toUInt64, UInt64.toNat_toUInt32]; omega
theorem leN_lt4 (l : List UInt8) (h : l.length ≤ 4) : (leN l).toNat < 4294967296 := by
  rw [leN_toNat _ (by omega)]
  exact Nat.lt_of_lt_of_le (leNat_lt l) (Nat.le_trans (Nat.pow_le_pow_right (by omega) h) (by decide))
theorem tk_len (b : List UInt8) (i k : Nat) (h : i + k ≤ b.length) : ((b.drop i).take k).length = k := by
  rw [List.length_take, List.length_drop]; omega
theorem tk_add (b : List UInt8) (i k : Nat) : b.take i ++ (b.drop i).take k = b.take (i + k) := by rw [List.take_add]
theorem core_of {b : List UInt8} (h : b.length = 128) : (An.of b).core = b.take 85 := by
  rw [An.core]
  simp only [An.of, w64_toNat]
  rw [to32_64 _ (leN_lt4 _ (by rw [tk_len _ _ _ (by omega)]; decide)), to32_64 _ (leN_lt4 _ (by rw [tk_len _ _ _ (by omega)]; decide))]
  rw [numB_leNk _ 1 (tk_len _ _ _ (by omega)) (by decide), numB_leNk _ 2 (tk_len _ _ _ (by omega)) (by decide), numB_leNk _ 4 (tk_len _ _ _ (by omega)) (by decide), numB_leNk _ 1 (tk_len _ _ _ (by omega)) (by decide), numB_leNk _ 1 (tk_len _ _ _ (by omega)) (by decide), numB_leNk _ 4 (tk_len _ _ _ (by omega)) (by decide), numB_leNk _ 8 (tk_len _ _ _ (by omega)) (by decide)]
  rw [List.drop_zero, tk_add, tk_add, tk_add, tk_add, tk_add, tk_add, tk_add, tk_add]
theorem of_wf {b : List UInt8} (h : b.length = 128) : (An.of b).wf := by
  have l : ∀ x : List UInt8, x.length ≤ 2 → inI ((leN x).toNat : Int) := fun x hx => by
    have := leN_lt4 x (by omega)
    unfold inI; omega
  exact ⟨tk_len _ _ _ (by omega), tk_len _ _ _ (by omega), l _ (by rw [List.length_take]; omega), l _ (by rw [List.length_take]; omega), l _ (by rw [List.length_take]; omega), l _ (by rw [List.length_take]; omega)⟩
theorem dt_app (x y z : List UInt8) (i k : Nat) (h1 : x.length = i) (h2 : y.length = k) : ((x ++ y ++ z).drop i).take k = y := by
  rw [List.append_assoc, List.drop_append_of_le_length (by omega), List.drop_of_length_le (by omega), List.nil_append, List.take_append_of_le_length (by omega), List.take_of_length_le (by omega)]
theorem w64_nat (n : Int) (h0 : 0 ≤ n) (h1 : n ≤ 65535) : ((w64 n).toNat : Int) = n := by
  rw [w64, UInt64.toNat_ofNat']; omega
theorem leN_w (n : Int) (k : Nat) (hk : 1 ≤ k) (hk8 : k ≤ 8) (h0 : 0 ≤ n) (h1 : n < 256 ^ k) (h2 : n ≤ 65535) : ((leN (numB (w64 n) k)).toNat : Int) = n := by
  rw [leN_numB _ _ hk8]
  have h3 := w64_nat n h0 h2
  rw [Nat.mod_eq_of_lt (by have : ((256 ^ k : Nat) : Int) = (256 : Int) ^ k := by simp
                           omega)]
  exact h3
theorem leN_32 (x : UInt32) : (leN (numB x.toUInt64 4)).toUInt32 = x := by
  rw [← UInt32.toNat_inj, UInt64.toNat_toUInt32, leN_numB _ _ (by decide), UInt32.toNat_toUInt64]
  have := x.toNat_lt; omega
theorem of_bytes {a : An} (h : a.wf) (hm : a.may) : An.of a.bytes = a := by
  obtain ⟨hd, rt, _⟩ := h
  obtain ⟨m1, m2, m3, m4, m5⟩ := hm
  have e0 : (a.bytes.drop 0).take 1 = numB (w64 a.v) 1 := by
    simp only [An.bytes, An.core, List.append_assoc, List.drop_zero]
    rw [List.take_append_of_le_length (by rw [numB_length]; exact Nat.le_refl _), List.take_of_length_le (by rw [numB_length]; exact Nat.le_refl _)]
  have g : ∀ x y z : List UInt8, a.bytes = x ++ y ++ z → ∀ i k, x.length = i → y.length = k → (a.bytes.drop i).take k = y := fun x y z e i k h1 h2 => by rw [e]; exact dt_app x y z i k h1 h2
  have e1 : (a.bytes.drop 1).take 2 = numB (w64 a.pg) 2 := g (numB (w64 a.v) 1) _ (numB a.ep.toUInt64 4 ++ numB (w64 a.hp) 1 ++ a.hd ++ numB (w64 a.rp) 1 ++ numB a.re.toUInt64 4 ++ a.rt ++ numB a.cm 8 ++ zb 43) (by simp only [An.bytes, An.core, List.append_assoc]) _ _ (by simp only [List.length_append, numB_length, hd, rt]) (numB_length _ _)
  have e2 : (a.bytes.drop 3).take 4 = numB a.ep.toUInt64 4 := g (numB (w64 a.v) 1 ++ numB (w64 a.pg) 2) _ (numB (w64 a.hp) 1 ++ a.hd ++ numB (w64 a.rp) 1 ++ numB a.re.toUInt64 4 ++ a.rt ++ numB a.cm 8 ++ zb 43) (by simp only [An.bytes, An.core, List.append_assoc]) _ _ (by simp only [List.length_append, numB_length, hd, rt]) (numB_length _ _)
  have e3 : (a.bytes.drop 7).take 1 = numB (w64 a.hp) 1 := g (numB (w64 a.v) 1 ++ numB (w64 a.pg) 2 ++ numB a.ep.toUInt64 4) _ (a.hd ++ numB (w64 a.rp) 1 ++ numB a.re.toUInt64 4 ++ a.rt ++ numB a.cm 8 ++ zb 43) (by simp only [An.bytes, An.core, List.append_assoc]) _ _ (by simp only [List.length_append, numB_length, hd, rt]) (numB_length _ _)
  have e4 : (a.bytes.drop 8).take 32 = a.hd := g (numB (w64 a.v) 1 ++ numB (w64 a.pg) 2 ++ numB a.ep.toUInt64 4 ++ numB (w64 a.hp) 1) _ (numB (w64 a.rp) 1 ++ numB a.re.toUInt64 4 ++ a.rt ++ numB a.cm 8 ++ zb 43) (by simp only [An.bytes, An.core, List.append_assoc]) _ _ (by simp only [List.length_append, numB_length, hd, rt]) hd
  have e5 : (a.bytes.drop 40).take 1 = numB (w64 a.rp) 1 := g (numB (w64 a.v) 1 ++ numB (w64 a.pg) 2 ++ numB a.ep.toUInt64 4 ++ numB (w64 a.hp) 1 ++ a.hd) _ (numB a.re.toUInt64 4 ++ a.rt ++ numB a.cm 8 ++ zb 43) (by simp only [An.bytes, An.core, List.append_assoc]) _ _ (by simp only [List.length_append, numB_length, hd, rt]) (numB_length _ _)
  have e6 : (a.bytes.drop 41).take 4 = numB a.re.toUInt64 4 := g (numB (w64 a.v) 1 ++ numB (w64 a.pg) 2 ++ numB a.ep.toUInt64 4 ++ numB (w64 a.hp) 1 ++ a.hd ++ numB (w64 a.rp) 1) _ (a.rt ++ numB a.cm 8 ++ zb 43) (by simp only [An.bytes, An.core, List.append_assoc]) _ _ (by simp only [List.length_append, numB_length, hd, rt]) (numB_length _ _)
  have e7 : (a.bytes.drop 45).take 32 = a.rt := g (numB (w64 a.v) 1 ++ numB (w64 a.pg) 2 ++ numB a.ep.toUInt64 4 ++ numB (w64 a.hp) 1 ++ a.hd ++ numB (w64 a.rp) 1 ++ numB a.re.toUInt64 4) _ (numB a.cm 8 ++ zb 43) (by simp only [An.bytes, An.core, List.append_assoc]) _ _ (by simp only [List.length_append, numB_length, hd, rt]) rt
  have e8 : (a.bytes.drop 77).take 8 = numB a.cm 8 := g (numB (w64 a.v) 1 ++ numB (w64 a.pg) 2 ++ numB a.ep.toUInt64 4 ++ numB (w64 a.hp) 1 ++ a.hd ++ numB (w64 a.rp) 1 ++ numB a.re.toUInt64 4 ++ a.rt) _ (zb 43) (by simp only [An.bytes, An.core, List.append_assoc]) _ _ (by simp only [List.length_append, numB_length, hd, rt]) (numB_length _ _)
  rw [An.of, e0, e1, e2, e3, e4, e5, e6, e7, e8, leN_32, leN_32, leN_numB8]
  rw [leN_w a.v 1 (by decide) (by decide) (by omega) (by omega) (by omega), leN_w a.pg 2 (by decide) (by decide) (by omega) (by omega) (by omega), leN_w a.hp 1 (by decide) (by decide) (by omega) (by omega) (by omega), leN_w a.rp 1 (by decide) (by decide) (by omega) (by omega) (by omega)]
theorem zer_zb (n : Nat) : zer (zb n) = true := by
  rw [zer, zb, List.all_eq_true]; intro x hx; rw [List.mem_replicate] at hx; rw [hx.2]; rfl
theorem zer_eq (l : List UInt8) (h : zer l = true) : l = zb l.length := by
  rw [zer, List.all_eq_true] at h
  exact List.eq_replicate_iff.2 ⟨rfl, fun x hx => by simpa using h x hx⟩
theorem bytes_drop {a : An} (h : a.wf) : a.bytes.drop 85 = zb 43 := by
  rw [An.bytes, List.drop_append_of_le_length (by rw [core_length h]; exact Nat.le_refl _), List.drop_of_length_le (by rw [core_length h]; exact Nat.le_refl _), List.nil_append]
theorem okA_bytes {a : An} (h : a.wf) (hm : a.may) : okA a.bytes := by
  refine ⟨abytes_length h, ?_, ?_⟩
  · rw [bytes_drop h]; exact zer_zb 43
  · rw [of_bytes h hm]; exact hm
theorem bytes_of {b : List UInt8} (h : b.length = 128) (hz : zer (b.drop 85) = true) : (An.of b).bytes = b := by
  rw [An.bytes, core_of h]
  have := zer_eq _ hz
  rw [show (b.drop 85).length = 43 by rw [List.length_drop, h]] at this
  rw [← this, List.take_append_drop]
theorem bytes_of_iff {b : List UInt8} (h : b.length = 128) : (An.of b).bytes = b ↔ zer (b.drop 85) = true := by
  refine ⟨fun e => ?_, bytes_of h⟩
  rw [← e, bytes_drop (of_wf h)]; exact zer_zb 43
theorem zero_wf : An.zero.wf := by
  refine ⟨rfl, rfl, ?_, ?_, ?_, ?_⟩ <;> (unfold inI; simp only [An.zero]; omega)
theorem parA_wf (b : List UInt8) : (parA b).wf := by
  unfold parA; split
  · rename_i h; exact of_wf h.1
  · exact zero_wf
theorem ac_length {a : An} (h : a.wf) : (ac a).length = 71 := by
  simp only [ac, List.length_append, List.length_map, h.1, h.2.1, List.length_cons, List.length_nil]
theorem ac_cellv (a : An) : (ac a).all cellv = true := by
  simp only [ac, List.all_append, all8]; rfl
end Go.Proofs.YtfhbieimffjjkaaDoor
