/- What is asked of a stretched key, as a law's argument. -/
import Derived.Test.YtelpdppdhimfoaaStl
import Derived.Test.YtelpdppdhimfoaaCsm
namespace Go.Proofs.Ytelpdppdhimfoaa
open Go Go.RowKit
set_option linter.unusedSimpArgs false
set_option linter.unusedVariables false
set_option maxRecDepth 4000
theorem ask_arg {H : AH} {v : Value} (h : AVal Try.prog H 24 v) : ∃ (vk : Value) (k : List UInt8) (vs : Value) (s : List UInt8) (r z : Int), v = .agg #[vk, vs, .int .i64 r, .int .i64 z] ∧ SL H vk (k.map U8) ∧ SL H vs (s.map U8) ∧ -9223372036854775808 ≤ r ∧ r ≤ 9223372036854775807 ∧ -9223372036854775808 ≤ z ∧ z ≤ 9223372036854775807 := by
  obtain ⟨⟨⟨vk, k⟩, ⟨vs, s⟩, r, z⟩, hv1, ⟨hk, -⟩, ⟨hs, -⟩, ⟨hr0, hr1⟩, hz0, hz1⟩ := arg24 h
  exact ⟨vk, k, vs, s, r, z, hv1, hk, hs, hr0, hr1, hz0, hz1⟩
end Go.Proofs.Ytelpdppdhimfoaa
