/- References as bytes: the plain laws. -/
import Derived.Test.YtfhbieimffjjkaaDoorSrc
namespace Go.Proofs.YtfhbieimffjjkaaDoor
open Go Go.RowKit
set_option linter.unusedSimpArgs false
set_option linter.unusedVariables false
set_option maxRecDepth 4000
/-- The epoch's bytes. -/
def eB (e : UInt32) (k : Nat) : List UInt8 := (List.range k).map fun i => (e >>> UInt32.ofNat (8 * i)).toUInt8
theorem eB_succ (e : UInt32) (k : Nat) : eB e (k + 1) = eB e k ++ [(e >>> UInt32.ofNat (8 * k)).toUInt8] := by
  rw [eB, List.range_succ, List.map_append]; rfl
theorem eB_length (e : UInt32) (k : Nat) : (eB e k).length = k := by rw [eB, List.length_map, List.length_range]
def layB (p : Int) (e : UInt32) (d : List UInt8) : List UInt8 := [(w64 p).toUInt8] ++ eB e 4 ++ d
theorem layB_length (p : Int) (e : UInt32) {d : List UInt8} (h : d.length = 32) : (layB p e d).length = 37 := by
  simp only [layB, List.length_append, eB_length, h, List.length_singleton]
theorem numB_e (e : UInt32) : numB e.toUInt64 4 = eB e 4 := by
  have h : ∀ k x : Nat, x < 4294967296 → k ≤ 3 → True := fun _ _ _ _ => trivial
  show [e.toUInt64.toUInt8, (e.toUInt64 >>> 8).toUInt8, (e.toUInt64 >>> 8 >>> 8).toUInt8, (e.toUInt64 >>> 8 >>> 8 >>> 8).toUInt8] = [(e >>> UInt32.ofNat (8 * 0)).toUInt8, (e >>> UInt32.ofNat (8 * 1)).toUInt8, (e >>> UInt32.ofNat (8 * 2)).toUInt8, (e >>> UInt32.ofNat (8 * 3)).toUInt8]
  have hr : ∀ j : Nat, j < 32 → (e >>> UInt32.ofNat j).toNat = e.toNat / 2 ^ j := fun j hj => by
    rw [UInt32.toNat_shiftRight, UInt32.toNat_ofNat', Nat.mod_eq_of_lt (show j < 2 ^ 32 by omega), Nat.mod_eq_of_lt hj, Nat.shiftRight_eq_div_pow]
  have e0 : e.toUInt64.toUInt8 = (e >>> UInt32.ofNat (8 * 0)).toUInt8 := by
    rw [← UInt8.toNat_inj, UInt64.toNat_toUInt8, UInt32.toNat_toUInt8, hr _ (by decide), UInt32.toNat_toUInt64]; simp
  have e1 : (e.toUInt64 >>> 8).toUInt8 = (e >>> UInt32.ofNat (8 * 1)).toUInt8 := by
    rw [← UInt8.toNat_inj, UInt64.toNat_toUInt8, UInt32.toNat_toUInt8, hr _ (by decide), sh8, UInt32.toNat_toUInt64]
  have e2 : (e.toUInt64 >>> 8 >>> 8).toUInt8 = (e >>> UInt32.ofNat (8 * 2)).toUInt8 := by
    rw [← UInt8.toNat_inj, UInt64.toNat_toUInt8, UInt32.toNat_toUInt8, hr _ (by decide), sh8, sh8, UInt32.toNat_toUInt64, Nat.div_div_eq_div_mul]
  have e3 : (e.toUInt64 >>> 8 >>> 8 >>> 8).toUInt8 = (e >>> UInt32.ofNat (8 * 3)).toUInt8 := by
    rw [← UInt8.toNat_inj, UInt64.toNat_toUInt8, UInt32.toNat_toUInt8, hr _ (by decide), sh8, sh8, sh8, UInt32.toNat_toUInt64, Nat.div_div_eq_div_mul, Nat.div_div_eq_div_mul]
  rw [e0, e1, e2, e3]
/-- The epoch of four bytes. -/
def eN (l : List UInt8) : UInt32 := (leN l).toUInt32
theorem eN_toNat (l : List UInt8) (h : l.length ≤ 4) : (eN l).toNat = leNat l := by
  rw [eN, UInt64.toNat_toUInt32, leN_toNat _ (by omega)]
  have h1 := leNat_lt l
  have h2 : 256 ^ l.length ≤ 256 ^ 4 := Nat.pow_le_pow_right (by decide) h
  exact Nat.mod_eq_of_lt (by omega)
theorem eN_snoc (l : List UInt8) (x : UInt8) (h : l.length ≤ 3) : eN l + (x.toUInt32 <<< UInt32.ofNat (8 * l.length)) = eN (l ++ [x]) := by
  rw [← UInt32.toNat_inj, eN_toNat _ (by simp; omega), UInt32.toNat_add, eN_toNat _ (by omega), UInt32.toNat_shiftLeft, UInt32.toNat_ofNat', Nat.mod_eq_of_lt (show 8 * l.length < 2 ^ 32 by omega), Nat.mod_eq_of_lt (show 8 * l.length < 32 by omega), UInt8.toNat_toUInt32, leNat_append, leNat, leNat, Nat.mul_zero, Nat.add_zero, Nat.shiftLeft_eq, show (2 : Nat) ^ (8 * l.length) = 256 ^ l.length by rw [Nat.pow_mul]]
  have h1 := leNat_lt (l ++ [x])
  rw [leNat_append, leNat, leNat, Nat.mul_zero, Nat.add_zero] at h1
  have h2 : 256 ^ (l ++ [x]).length ≤ 256 ^ 4 := Nat.pow_le_pow_right (by decide) (by simp; omega)
  have h3 : x.toNat * 256 ^ l.length = 256 ^ l.length * x.toNat := Nat.mul_comm _ _
  rw [h3]
  rw [Nat.mod_eq_of_lt (show 256 ^ l.length * x.toNat < 2 ^ 32 by omega)]
  exact Nat.mod_eq_of_lt (by omega)
theorem eN_eB (e : UInt32) : eN (eB e 4) = e := by
  rw [← UInt32.toNat_inj, eN_toNat _ (by rw [eB_length]; decide), ← numB_e, leNat_numB, UInt32.toNat_toUInt64]
  have := e.toNat_lt
  exact Nat.mod_eq_of_lt (by omega)
theorem eB_eN (l : List UInt8) (h : l.length = 4) : eB (eN l) 4 = l := by
  rw [← numB_e]
  match l, h with
  | [a, b, c, d], _ =>
    have hn : (eN [a, b, c, d]).toUInt64.toNat = a.toNat + 256 * (b.toNat + 256 * (c.toNat + 256 * (d.toNat + 256 * 0))) := by
      rw [UInt32.toNat_toUInt64, eN_toNat _ (by simp)]; rfl
    have ha := a.toNat_lt
    have hb := b.toNat_lt
    have hc := c.toNat_lt
    have hd := d.toNat_lt
    generalize (eN [a, b, c, d]).toUInt64 = x at *
    have q0 : x.toUInt8 = a := by rw [← UInt8.toNat_inj, UInt64.toNat_toUInt8, hn]; omega
    have q1 : (x >>> 8).toUInt8 = b := by rw [← UInt8.toNat_inj, UInt64.toNat_toUInt8, sh8, hn]; omega
    have q2 : (x >>> 8 >>> 8).toUInt8 = c := by rw [← UInt8.toNat_inj, UInt64.toNat_toUInt8, sh8, sh8, hn]; omega
    have q3 : (x >>> 8 >>> 8 >>> 8).toUInt8 = d := by rw [← UInt8.toNat_inj, UInt64.toNat_toUInt8, sh8, sh8, sh8, hn]; omega
    show [x.toUInt8, (x >>> 8).toUInt8, (x >>> 8 >>> 8).toUInt8, (x >>> 8 >>> 8 >>> 8).toUInt8] = _
    rw [q0, q1, q2, q3]
def okP (b : List UInt8) : Prop := b.length = 37 ∧ (b.getD 0 0).toNat ≤ 1
instance (b : List UInt8) : Decidable (okP b) := inferInstanceAs (Decidable (_ ∧ _))
def pzP (b : List UInt8) : Int := if okP b then ((b.getD 0 0).toNat : Int) else 0
def pzQ (b : List UInt8) : UInt32 := if okP b then eN ((b.drop 1).take 4) else 0
def pzD (b : List UInt8) : List UInt8 := if okP b then b.drop 5 else zb 32
def pzE (b : List UInt8) : Int := if okP b then 0 else 1
theorem pzD_length (b : List UInt8) : (pzD b).length = 32 := by
  unfold pzD; split
  · rename_i h; rw [List.length_drop, h.1]
  · exact zb_length _
theorem w64_lit (n : Nat) (h : n ≤ 1) : (w64 (n : Int)).toUInt8.toNat = n := by
  match n, h with
  | 0, _ => rfl
  | 1, _ => rfl
theorem parse_lay (p : Int) (e : UInt32) (d : List UInt8) (hd : d.length = 32) (hp : p = 0 ∨ p = 1) : pzP (layB p e d) = p ∧ pzQ (layB p e d) = e ∧ pzD (layB p e d) = d ∧ pzE (layB p e d) = 0 := by
  obtain ⟨n, rfl, hn⟩ : ∃ n : Nat, p = (n : Int) ∧ n ≤ 1 := by
    rcases hp with rfl | rfl
    · exact ⟨0, rfl, by decide⟩
    · exact ⟨1, rfl, by decide⟩
  have h0 : (layB (n : Int) e d).getD 0 0 = (w64 (n : Int)).toUInt8 := rfl
  have hw := w64_lit n hn
  have hok : okP (layB n e d) := ⟨layB_length _ _ hd, by rw [h0, hw]; exact hn⟩
  rw [pzP, pzQ, pzD, pzE, if_pos hok, if_pos hok, if_pos hok, if_pos hok, h0, hw]
  refine ⟨rfl, ?_, ?_, rfl⟩
  · show eN (List.take 4 (eB e 4 ++ d)) = e
    rw [List.take_left' (eB_length e 4), eN_eB]
  · show List.drop 4 (eB e 4 ++ d) = d
    rw [List.drop_left' (eB_length e 4)]
theorem lay_parse (b : List UInt8) (h : okP b) : layB (pzP b) (pzQ b) (pzD b) = b := by
  rw [pzP, pzQ, pzD, if_pos h, if_pos h, if_pos h]
  obtain ⟨h1, h2⟩ := h
  match b, h1 with
  | x :: l, h1 =>
    simp only [List.getD_cons_zero, List.drop_succ_cons, List.drop_zero, List.length_cons] at h1 h2 ⊢
    have hx : (w64 (x.toNat : Int)).toUInt8 = x := by rw [← UInt8.toNat_inj, w64_lit _ h2]
    rw [layB, hx, eB_eN _ (by rw [List.length_take]; omega), List.append_assoc, List.take_append_drop]
    rfl
/-- What the reader answers. -/
theorem rd_parse (b : List UInt8) (h : b.length = 37) :
    (okP b → Rd.num ⟨b, 0⟩ 1 1 = (b.getD 0 0).toUInt64 ∧ Rd.num' ⟨b, 0⟩ 1 1 = ⟨b.drop 1, 0⟩) ∧ (¬ okP b → Rd.num ⟨b, 0⟩ 1 1 = 0 ∧ Rd.num' ⟨b, 0⟩ 1 1 = ⟨b.drop 1, 3⟩) := by
  match b, h with
  | x :: l, h =>
    have hb : Rd.bytes ⟨x :: l, 0⟩ 1 = [x] := by rw [Rd.bytes, if_pos ⟨rfl, by simp⟩]; rfl
    have hb' : Rd.bytes' ⟨x :: l, 0⟩ 1 = ⟨l, 0⟩ := by rw [Rd.bytes', if_pos rfl, if_pos (by simp)]; rfl
    have hl : leN [x] = x.toUInt64 := by
      rw [← UInt64.toNat_inj, leN_toNat _ (by simp), UInt8.toNat_toUInt64]; simp [leNat]
    unfold Rd.num Rd.num'
    rw [hb, hb', hl, UInt8.toNat_toUInt64]
    constructor
    · intro hok
      have : x.toNat ≤ (1 : UInt64).toNat := hok.2
      rw [if_pos this, if_pos this]
      exact ⟨rfl, rfl⟩
    · intro hok
      have : ¬ x.toNat ≤ (1 : UInt64).toNat := fun k => hok ⟨h, k⟩
      rw [if_neg this, if_neg this]
      exact ⟨rfl, rfl⟩
theorem rd_epoch (b : List UInt8) (h : b.length = 37) : Rd.num ⟨b.drop 1, 0⟩ 4 4294967295 = leN ((b.drop 1).take 4) ∧ Rd.num' ⟨b.drop 1, 0⟩ 4 4294967295 = ⟨b.drop 5, 0⟩ := by
  have hb : Rd.bytes ⟨b.drop 1, 0⟩ 4 = (b.drop 1).take 4 := by rw [Rd.bytes, if_pos ⟨rfl, by rw [List.length_drop]; omega⟩]
  have hb' : Rd.bytes' ⟨b.drop 1, 0⟩ 4 = ⟨b.drop 5, 0⟩ := by rw [Rd.bytes', if_pos rfl, if_pos (by rw [List.length_drop]; omega)]; simp only [List.drop_drop]
  have hn : (leN ((b.drop 1).take 4)).toNat ≤ (4294967295 : UInt64).toNat := by
    have hl : ((b.drop 1).take 4).length = 4 := by rw [List.length_take, List.length_drop]; omega
    have h1 := leNat_lt ((b.drop 1).take 4)
    rw [hl] at h1
    rw [leN_toNat _ (by omega)]
    show _ ≤ 4294967295
    omega
  unfold Rd.num Rd.num'
  rw [hb, hb', if_pos hn, if_pos hn]
  exact ⟨rfl, rfl⟩
theorem rd_epoch3 (b : List UInt8) : Rd.num ⟨b, 3⟩ 4 4294967295 = 0 ∧ Rd.num' ⟨b, 3⟩ 4 4294967295 = ⟨b, 3⟩ := by
  have hb : Rd.bytes ⟨b, 3⟩ 4 = [] := by rw [Rd.bytes, if_neg (fun h => absurd h.1 (show ¬ (3 : Int) = 0 by decide))]
  have hb' : Rd.bytes' ⟨b, 3⟩ 4 = ⟨b, 3⟩ := by rw [Rd.bytes', if_neg (show ¬ (3 : Int) = 0 by decide)]
  unfold Rd.num Rd.num'
  rw [hb, hb', leN_nil, if_pos (by decide), if_pos (by decide)]
  exact ⟨rfl, rfl⟩
theorem rd_digest (b : List UInt8) (h : b.length = 37) : Rd.bytes ⟨b.drop 5, 0⟩ 32 = b.drop 5 ∧ Rd.bytes' ⟨b.drop 5, 0⟩ 32 = ⟨[], 0⟩ := by
  rw [Rd.bytes, if_pos ⟨rfl, by rw [List.length_drop]; omega⟩, Rd.bytes', if_pos rfl, if_pos (by rw [List.length_drop]; omega)]
  refine ⟨List.take_of_length_le (by rw [List.length_drop]; omega), ?_⟩
  simp only [List.drop_drop]
  rw [List.drop_of_length_le (by omega)]
theorem rd_digest3 (b : List UInt8) : Rd.bytes ⟨b, 3⟩ 32 = [] ∧ Rd.bytes' ⟨b, 3⟩ 32 = ⟨b, 3⟩ := by
  rw [Rd.bytes, if_neg (fun h => absurd h.1 (show ¬ (3 : Int) = 0 by decide)), Rd.bytes', if_neg (show ¬ (3 : Int) = 0 by decide)]
  exact ⟨rfl, rfl⟩
end Go.Proofs.YtfhbieimffjjkaaDoor
