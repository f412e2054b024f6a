/- FailFinds: for every input the law returns true: the row of it, and its card (the tie is given). -/
import Derived.Test.YtldfnfpinemedaaDoorFb1
import Derived.Test.YtldfnfpinemedaaDoorFb3
import Derived.Test.YtldfnfpinemedaaDoorDor
import Derived.Test.YtldfnfpinemedaaDoorCards
import Derived.Test.YtldfnfpinemedaaDoorTie
import Derived.SevenTiedAt
namespace Go.Proofs.YtldfnfpinemedaaDoor
open Go Go.ChangeShapes Go.WideShapes Go.ChangeAt Go.RowKit
set_option maxRecDepth 100000 in
theorem failFinds_lifted (os : Os) (started : os.Started) (H : Type) (enc : TypeId × Value → H) :
    ReturnsInHanded {} Tryd.checked os 3 .any (fun w args => (Rows.failFindsSpec.pre enc Tryd.prog Tryd.f3 [] false w args ∧ laidMetH Tryd.prog laidL w) ∧ sizedMet enc Tryd.prog Tryd.f3 (OpenSpec.ofChange Rows.failFindsSpec) false w args)
      (Rows.failFindsSpec.post enc Tryd.prog Tryd.f3 false true false false) := by
  refine returnsInHanded_of_change_and (C := Tryd.checked) (X := fun w _ => laidMetH Tryd.prog laidL w) (fun _ _ _ hh h => h.of_heap hh) Tryd.own started (by kernel_rfl) Tryd.func3
    (ChangeSpec.witness_shaped (enc := enc) (C := Tryd.checked) (os := os) (X := fun w _ => laidMetH Tryd.prog laidL w) false (laidWorld os) #[.slice none 0 0, .int .i64 0, .int .i64 0] 8 rfl (World.shaped_of_RefB (by kernel_rfl) (by kernel_rfl)) (by kernel_rfl) (by kernel_rfl) (by kernel_rfl) (door_met os _)) ?_
  intro W base args ds gs before hval0 hW _ _ hL _
  refine law_contractG (rt := 4) Tryd.laidOut ffinds_law rfl ?_ (by kernel_rfl) ?_ rfl (by kernel_rfl) W (fix_of_laid hL) base args ds gs before hval0 hW
  · intro ds hd
    match ds, hd with
    | [d1, d2, d3], _ => rfl
  · exact of_decide_eq_true (by kernel_rfl)
theorem failFinds_row : Rows.FailFindsSaid :=
  OpenClaim.holds_of_wide 3 Tryd.f3 rfl rfl rfl rfl rfl rfl rfl ⟨rfl, rfl, rfl, rfl, rfl⟩ rfl rfl rfl rfl rfl (by kernel_rfl) Tryd.func3 (by kernel_rfl)
    (of_decide_eq_true (by kernel_rfl)) (by unfold Func.isWrapper; first | (rw [if_pos (by decide +kernel)]; kernel_rfl) | (rw [if_neg (by decide +kernel)]; exact ⟨rfl, rfl⟩))
    (fun os started H enc _ => failFinds_lifted os started H enc)
theorem failFinds_holds : Rows.FailFindsCardSaid :=
  Claim7.holds_tied_plain_at .later [] [.data, .data, .data, .handle] true (true, "c58ccc5d792debec6aca5219c0a287b14f55fea901136fe8355b7ad6ed5aa55c") true
    failFinds_row (fun _ h => by cases h) (by kernel_rfl) (fun _ h => by cases h) failFinds_row_tie rfl ⟨rfl, rfl⟩ (by kernel_rfl) rfl
    (fun f fn hf hfn => by
      obtain rfl : f = 3 := Option.some.inj ((show Tryd.prog.funcNamed "carling/carlinglaw25.FailFinds" = some 3 by kernel_rfl).symm.trans hf) |>.symm
      obtain rfl : fn = Tryd.f3 := (Option.some.inj (Tryd.func3.symm.trans hfn)).symm
      exact ⟨by kernel_rfl, fun j t ht => by
        have hp : t ∈ Tryd.f3.params.toList := by
          rw [Array.getElem?_eq_some_iff] at ht
          obtain ⟨h1, h2⟩ := ht
          rw [← h2]; exact Array.getElem_mem_toList h1
        have hall : Tryd.f3.params.toList.all (fun t => !Tryd.prog.wantsStandIn t) = true := by kernel_rfl
        have := List.all_eq_true.1 hall t hp
        show Tryd.prog.wantsStandIn t = false
        simpa using this⟩)
    (by kernel_rfl)
end Go.Proofs.YtldfnfpinemedaaDoor
