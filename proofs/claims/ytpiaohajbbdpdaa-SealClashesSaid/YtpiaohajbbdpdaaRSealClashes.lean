/- SealClashes: for every input the law returns true: the row of it. -/
import Derived.Test.YtpiaohajbbdpdaaSc4
import Derived.ProofKit
namespace Go.Proofs.Ytpiaohajbbdpdaa
open Go Go.ChangeShapes Go.WideShapes Go.ChangeAt Go.RowKit
theorem Try.own : ownKnob Try.prog.godebug = none := by kernel_rfl
theorem Try.laidOut : laidOutB Try.prog = true := by kernel_rfl
set_option maxRecDepth 100000 in
theorem sealClashes_lifted (os : Os) (started : os.Started) (H : Type) (enc : TypeId × Value → H) :
    ReturnsInHanded {} Try.checked os 7 .any (Rows.sealClashesSpec.pre6 enc Try.prog Try.f7 Rows.sealClashesRow.domain false) (Rows.sealClashesSpec.post enc Try.prog Try.f7 false true false false) := by
  refine returnsInHanded_of_change (C := Try.checked) Try.own started (by kernel_rfl) Try.func7
    (ChangeSpec.witness6 (enc := enc) (C := Try.checked) false ⟨#[], #[.slice none 0 0], []⟩ 8 (by kernel_rfl) (by kernel_rfl) (by kernel_rfl) (by kernel_rfl)) ?_
  intro W base args ds gs before hval0 hW hcnd _
  refine law_contract (rt := 4) Try.laidOut sclashes_law rfl ?_ (by kernel_rfl) ?_ rfl (by kernel_rfl) W base args ds gs before hval0 hW
  · intro ds hd
    match ds, hd with
    | [d1], _ => rfl
  · exact of_decide_eq_true (by kernel_rfl)
theorem sealClashes_holds : Rows.SealClashesSaid :=
  OpenClaim.holds_of_wide 7 Try.f7 rfl rfl rfl rfl rfl rfl rfl ⟨rfl, rfl, rfl, rfl, rfl⟩ rfl rfl rfl rfl rfl (by kernel_rfl) Try.func7 (by kernel_rfl)
    (of_decide_eq_true (by kernel_rfl)) (by unfold Func.isWrapper; first | (rw [if_pos (by decide +kernel)]; kernel_rfl) | (rw [if_neg (by decide +kernel)]; exact ⟨rfl, rfl⟩))
    (fun os started H enc _ => sealClashes_lifted os started H enc)
end Go.Proofs.Ytpiaohajbbdpdaa
