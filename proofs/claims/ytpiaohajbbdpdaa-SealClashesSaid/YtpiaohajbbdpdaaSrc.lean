/- References' cells. -/
import Derived.Test.YtpiaohajbbdpdaaC8
import Derived.Test.YtpiaohajbbdpdaaBda
import Derived.Test.YtpiaohajbbdpdaaPk4
namespace Go.Proofs.Ytpiaohajbbdpdaa
open Go Go.RowKit
set_option linter.unusedSimpArgs false
set_option linter.unusedVariables false
set_option maxRecDepth 4000
/-- A reference's cells. -/
def rc (p : Int) (e : UInt32) (d : List UInt8) : List Value := [.int .i64 p] ++ ([U32 e] ++ d.map U8)
theorem rc_length {d : List UInt8} (h : d.length = 32) (p : Int) (e : UInt32) : (rc p e d).length = 34 := by
  simp only [rc, List.length_append, List.length_map, h, List.length_singleton]
theorem rc_cellv (p : Int) (e : UInt32) (d : List UInt8) : (rc p e d).all cellv = true := by
  rw [rc, List.all_append, List.all_append, all8]; rfl
theorem rc_p (p : Int) (e : UInt32) (d : List UInt8) : (rc p e d)[0]? = some (.int .i64 p) := rfl
theorem rc_e (p : Int) (e : UInt32) (d : List UInt8) : (rc p e d)[1]? = some (U32 e) := rfl
theorem rc_d {d : List UInt8} (h : d.length = 32) (p : Int) (e : UInt32) : ((rc p e d).drop 2).take 32 = d.map U8 := by
  show List.take 32 (d.map U8) = _
  exact List.take_of_length_le (by rw [List.length_map, h]; exact Nat.le_refl _)
theorem rc_take {d : List UInt8} (h : d.length = 32) (p : Int) (e : UInt32) : List.take 34 (rc p e d) = rc p e d := List.take_of_length_le (by rw [rc_length h]; decide)
theorem rc_ovr {d d' : List UInt8} (h : d.length = 32) (h' : d'.length = 32) (p p' : Int) (e e' : UInt32) : ovr (rc p e d) 0 (rc p' e' d') = rc p' e' d' := ovr_all _ _ (by rw [rc_length h, rc_length h'])
theorem zR : [Value.int .i64 0, Value.int .u32 0, Value.int .u8 0, Value.int .u8 0, Value.int .u8 0, Value.int .u8 0, Value.int .u8 0, Value.int .u8 0, Value.int .u8 0, Value.int .u8 0, Value.int .u8 0, Value.int .u8 0, Value.int .u8 0, Value.int .u8 0, Value.int .u8 0, Value.int .u8 0, Value.int .u8 0, Value.int .u8 0, Value.int .u8 0, Value.int .u8 0, Value.int .u8 0, Value.int .u8 0, Value.int .u8 0, Value.int .u8 0, Value.int .u8 0, Value.int .u8 0, Value.int .u8 0, Value.int .u8 0, Value.int .u8 0, Value.int .u8 0, Value.int .u8 0, Value.int .u8 0, Value.int .u8 0, Value.int .u8 0] = rc 0 0 (zb 32) := rfl
theorem zRr : [Value.int .i64 0, Value.int .u32 0, Value.int .u8 0, Value.int .u8 0, Value.int .u8 0, Value.int .u8 0, Value.int .u8 0, Value.int .u8 0, Value.int .u8 0, Value.int .u8 0, Value.int .u8 0, Value.int .u8 0, Value.int .u8 0, Value.int .u8 0, Value.int .u8 0, Value.int .u8 0, Value.int .u8 0, Value.int .u8 0, Value.int .u8 0, Value.int .u8 0, Value.int .u8 0, Value.int .u8 0, Value.int .u8 0, Value.int .u8 0, Value.int .u8 0, Value.int .u8 0, Value.int .u8 0, Value.int .u8 0, Value.int .u8 0, Value.int .u8 0, Value.int .u8 0, Value.int .u8 0, Value.int .u8 0, Value.int .u8 0] = rc 0 0 (zb 32) := rfl
theorem SL.far {H : AH} {v : Value} {vs : List Value} {g : Nat} {cs : List Value} (h : SL H v vs) (hc : H.cells g = some cs) (hl : cs.length < vs.length) : ∀ o n e, v ≠ .slice (some ⟨g, o, none⟩) n e := by
  intro o n e hv
  rcases h with ⟨_, h⟩ | ⟨q, o', e', h0, h⟩
  · subst h; simp at hl
  rcases h with h | ⟨cs', hc', h1, h2⟩
  · subst h; simp at hl
  rw [hv] at h0
  cases h0
  rw [hc] at hc'
  cases hc'
  omega
end Go.Proofs.Ytpiaohajbbdpdaa
