/- copy from a slice into a part of a block. -/
import Derived.Test.YtfdpmffcdafmgaaDoorC7
namespace Go.Proofs.YtfdpmffcdafmgaaDoor
open Go Go.RowKit
set_option linter.unusedSimpArgs false
set_option linter.unusedVariables false
set_option maxRecDepth 4000
theorem ovr_mid (cs vs : List Value) (o : Nat) (h0 : 2 ≤ vs.length) : ovr cs o vs = cs.take o ++ vs ++ cs.drop (o + vs.length) := by
  match vs, h0 with
  | a :: b :: r, _ =>
    unfold ovr
    simp only []
    split
    · rename_i k
      obtain ⟨rfl, k⟩ := k
      rw [List.take_zero, List.nil_append, List.drop_of_length_le (by rw [Nat.zero_add, k]; exact Nat.le_refl _), List.append_nil]
    · rfl
theorem copy_at {P : Program} {H : AH} {t tx : TypeId} {bytes g o n e : Nat} {v : Value} {vs cs : List Value} (he : elemT P t = some (1, bytes)) (ht : sliceT P tx = true) (h : SL H v vs) (hv : vs.all cellv = true) (hg : H[g]? = some (.own cs)) (hn : vs.length = n) (hl : o + n ≤ cs.length) (h0 : 2 ≤ n) :
    acopy P H t tx (.slice (some ⟨g, o, none⟩) n e) v = some (.int .i64 n, H.set g (.own (cs.take o ++ vs ++ cs.drop (o + n)))) := by
  subst hn
  have hov : ovr cs o vs = cs.take o ++ vs ++ cs.drop (o + vs.length) := by
    match vs, h0 with
    | a :: b :: r, _ =>
      unfold ovr
      simp only []
      split
      · rename_i k
        obtain ⟨rfl, k⟩ := k
        rw [List.take_zero, List.nil_append, List.drop_of_length_le (by rw [Nat.zero_add, k]; exact Nat.le_refl _), List.append_nil]
      · rfl
  unfold acopy
  simp only [he, asrc_sl ht h hv, Nat.min_self, hg, Nat.mul_one, List.take_length]
  rw [show min (vs.length : Int) (vs.length : Int) = (vs.length : Int) by omega]
  rw [if_neg (by omega), if_pos ⟨hl, hv⟩, hov]
theorem copy_none {P : Program} {H : AH} {t tx : TypeId} {bytes g o n e : Nat} {v : Value} (he : elemT P t = some (1, bytes)) (ht : sliceT P tx = true) (h : SL H v []) :
    acopy P H t tx (.slice (some ⟨g, o, none⟩) n e) v = some (.int .i64 0, H) := by
  unfold acopy
  simp only [he, asrc_sl ht h rfl, List.length_nil, Nat.zero_min, if_true]
end Go.Proofs.YtfdpmffcdafmgaaDoor
