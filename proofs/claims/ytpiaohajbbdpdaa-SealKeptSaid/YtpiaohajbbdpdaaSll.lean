/- What is asked of a page sealed. -/
import Derived.Test.YtpiaohajbbdpdaaSal
namespace Go.Proofs.Ytpiaohajbbdpdaa
open Go Go.RowKit
--hide
set_option linter.unusedSimpArgs false
set_option linter.unusedVariables false
set_option maxRecDepth 4000
/-- The cells of what is asked. -/
def ac9 (k : List UInt8) (e : UInt32) (p n : Int) : List Value := k.map U8 ++ ([U32 e] ++ ([.int .i64 p] ++ [.int .i64 n]))
section
variable {k : List UInt8} {e : UInt32} {p n : Int}
theorem ac9_length (h : k.length = 32) : (ac9 k e p n).length = 35 := by
  simp only [ac9, List.length_append, List.length_map, h, List.length_singleton]
theorem ac9_cellv : (ac9 k e p n).all cellv = true := by rw [ac9, List.all_append, all8]; rfl
theorem ac9_k (h : k.length = 32) : (ac9 k e p n).take 32 = k.map U8 := by
  rw [ac9, List.take_append_of_le_length (by rw [List.length_map, h]; exact Nat.le_refl _), List.take_of_length_le (by rw [List.length_map, h]; exact Nat.le_refl _)]
theorem ac9_at (h : k.length = 32) (i : Nat) : (ac9 k e p n)[32 + i]? = ([U32 e, .int .i64 p, .int .i64 n] : List Value)[i]? := by
  rw [ac9, List.getElem?_append_right (by rw [List.length_map, h]; omega), List.length_map, h, Nat.add_sub_cancel_left]; rfl
theorem ac9_e (h : k.length = 32) : (ac9 k e p n)[32]? = some (U32 e) := ac9_at h 0
theorem ac9_p (h : k.length = 32) : (ac9 k e p n)[33]? = some (.int .i64 p) := ac9_at h 1
theorem ac9_n (h : k.length = 32) : (ac9 k e p n)[34]? = some (.int .i64 n) := ac9_at h 2
end
theorem ask9_arg {H : AH} {v : Value} (h : AVal Try.prog H 25 v) : ∃ (k : List UInt8) (e : UInt32) (p n : Int), v = .agg (ac9 k e p n).toArray ∧ k.length = 32 ∧ -9223372036854775808 ≤ p ∧ p ≤ 9223372036854775807 ∧ -9223372036854775808 ≤ n ∧ n ≤ 9223372036854775807 := by
  obtain ⟨⟨k, e, p, n⟩, hv1, hk, -, ⟨hp0, hp1⟩, hn0, hn1⟩ := arg25 h
  exact ⟨k, e, p, n, hv1, hk, hp0, hp1, hn0, hn1⟩
theorem hdR_rc {k : List UInt8} {e : UInt32} {pl bl : Int} {pg : List UInt8} : ∃ p e' d, hdR k e pl bl pg = rc p e' d ∧ d.length = 32 ∧ -9223372036854775808 ≤ p ∧ p ≤ 9223372036854775807 := by
  unfold hdR
  split
  · rename_i h
    exact ⟨_, _, _, rfl, digest_length _, by have := h.2; omega, by have := h.2; omega⟩
  · exact ⟨_, _, _, rfl, zb_length _, by decide, by decide⟩
theorem slK_length {k : List UInt8} {e : UInt32} {bl : Int} {pg : List UInt8} : (slK k e bl pg).length ≤ 256 := by
  unfold slK; split
  · rename_i h; rw [trn_length, h.1]; exact Nat.le_refl _
  · exact Nat.zero_le _
theorem hdK_length {k : List UInt8} {e : UInt32} {pl bl : Int} {pg : List UInt8} : (hdK k e pl bl pg).length ≤ 256 := by
  unfold hdK; split
  · rename_i h; rw [trn_length, h.1.1]; exact Nat.le_refl _
  · exact Nat.zero_le _
theorem opK_length {k d : List UInt8} {e : UInt32} {bl : Int} {pg : List UInt8} : (opK k e d bl pg).length ≤ 256 := by
  unfold opK; split
  · rename_i h; rw [trn_length, h.1.1]; exact Nat.le_refl _
  · exact Nat.zero_le _
end Go.Proofs.Ytpiaohajbbdpdaa
