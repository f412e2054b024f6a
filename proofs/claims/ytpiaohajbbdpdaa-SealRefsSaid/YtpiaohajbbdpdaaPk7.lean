/- pack: Text, Fill; the document's Text, Fill, Num. -/
import Derived.Test.YtpiaohajbbdpdaaPk2
namespace Go.Proofs.Ytpiaohajbbdpdaa
open Go Go.RowKit
--hide
set_option linter.unusedSimpArgs false
set_option linter.unusedVariables false
set_option maxRecDepth 4000
def okT (s : List UInt8) (z : Int) : Prop := 1 ≤ z ∧ z ≤ 255 ∧ (s.length : Int) ≤ z
instance (s : List UInt8) (z : Int) : Decidable (okT s z) := inferInstanceAs (Decidable (_ ∧ _))
def putT (b s : List UInt8) (z : Int) : List UInt8 := b ++ (UInt8.ofNat s.length :: (s ++ zb (z.toNat - s.length)))
def okF (b : List UInt8) (z : Int) : Prop := (b.length : Int) ≤ z
instance (b : List UInt8) (z : Int) : Decidable (okF b z) := inferInstanceAs (Decidable (_ ≤ _))
def putF (b : List UInt8) (z : Int) : List UInt8 := b ++ zb (z.toNat - b.length)
def tT (b s : List UInt8) (z : Int) : List UInt8 := if okT s z then putT b s z else []
def eT (s : List UInt8) (z : Int) : Int := if okT s z then 0 else 1
def tF (b : List UInt8) (z : Int) : List UInt8 := if okF b z then putF b z else []
def eF (b : List UInt8) (z : Int) : Int := if okF b z then 0 else 1
theorem uni {H H' : AH} {w : Value} {c : Prop} [Decidable c] {l : List UInt8} (h : (c ∧ (∃ x, w = .tuple #[x, .int .i64 0] ∧ OS H.length H' x (l.map U8)) ∨ ¬ c ∧ w = .tuple #[.slice none 0 0, .int .i64 1]) ∧ Ext H H') :
    ∃ x, w = .tuple #[x, .int .i64 (if c then 0 else 1)] ∧ OS H.length H' x ((if c then l else []).map U8) ∧ Ext H H' := by
  obtain ⟨⟨hc, x, rfl, ho⟩ | ⟨hc, rfl⟩, e⟩ := h
  · exact ⟨x, by rw [if_pos hc], by rw [if_pos hc]; exact ho, e⟩
  · exact ⟨_, by rw [if_neg hc], by rw [if_neg hc]; exact OS.nil _ _, e⟩
end Go.Proofs.Ytpiaohajbbdpdaa
