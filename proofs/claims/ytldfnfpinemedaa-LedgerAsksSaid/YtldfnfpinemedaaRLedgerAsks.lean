/- LedgerAsks: for every input the law returns true: the row of it. -/
import Derived.Test.YtldfnfpinemedaaLmx
import Derived.ProofKit
namespace Go.Proofs.Ytldfnfpinemedaa
open Go Go.ChangeShapes Go.WideShapes Go.ChangeAt Go.RowKit
theorem Try.own : ownKnob Try.prog.godebug = none := by kernel_rfl
theorem Try.laidOut : laidOutB Try.prog = true := by kernel_rfl
set_option maxRecDepth 100000 in
theorem ledgerAsks_lifted (os : Os) (started : os.Started) (H : Type) (enc : TypeId × Value → H) :
    ReturnsInHanded {} Try.checked os 8 .any (Rows.ledgerAsksSpec.pre6 enc Try.prog Try.f8 Rows.ledgerAsksRow.domain false) (Rows.ledgerAsksSpec.post enc Try.prog Try.f8 false true false false) := by
  refine returnsInHanded_of_change (C := Try.checked) Try.own started (by kernel_rfl) Try.func8
    (ChangeSpec.witness6 (enc := enc) (C := Try.checked) false ⟨#[], #[.slice none 0 0, .agg #[.int .u32 0, .int .i64 0]], []⟩ 8 (by kernel_rfl) (by kernel_rfl) (by kernel_rfl) (by kernel_rfl)) ?_
  intro W base args ds gs before hval0 hW hcnd _
  refine law_contract (rt := 4) Try.laidOut leasks_law rfl ?_ (by kernel_rfl) ?_ rfl (by kernel_rfl) W base args ds gs before hval0 hW
  · intro ds hd
    match ds, hd with
    | [d1, d2], _ => rfl
  · exact of_decide_eq_true (by kernel_rfl)
theorem ledgerAsks_holds : Rows.LedgerAsksSaid :=
  OpenClaim.holds_of_wide 8 Try.f8 rfl rfl rfl rfl rfl rfl rfl ⟨rfl, rfl, rfl, rfl, rfl⟩ rfl rfl rfl rfl rfl (by kernel_rfl) Try.func8 (by kernel_rfl)
    (of_decide_eq_true (by kernel_rfl)) (by unfold Func.isWrapper; first | (rw [if_pos (by decide +kernel)]; kernel_rfl) | (rw [if_neg (by decide +kernel)]; exact ⟨rfl, rfl⟩))
    (fun os started H enc _ => ledgerAsks_lifted os started H enc)
end Go.Proofs.Ytldfnfpinemedaa
