/- math/bits.RotateLeft32, walked once. -/
import Derived.Test.YtldfnfpinemedaaDoorBd
namespace Go.Proofs.YtldfnfpinemedaaDoor
open Go Go.RowKit
set_option linter.unusedSimpArgs false
set_option linter.unusedVariables false
set_option maxRecDepth 4000
theorem aresults_0 {P : Program} {fn : Func} {t : ATmps} {H : AH} (h : fn.results = #[]) : aresults P fn t H = some (.tuple #[]) := by unfold aresults; rw [h]
theorem aresults_1 {P : Program} {fn : Func} {t : ATmps} {H : AH} {r : ResultVar} (h : fn.results = #[r]) : aresults P fn t H = aresult P H t r := by unfold aresults; rw [h]
theorem aresults_2 {P : Program} {fn : Func} {t : ATmps} {H : AH} {r s : ResultVar} (h : fn.results = #[r, s]) : aresults P fn t H = (match aresult P H t r, aresult P H t s with | some a, some b => some (.tuple #[a, b]) | _, _ => none) := by unfold aresults; rw [h]; rfl
theorem aresults_3 {P : Program} {fn : Func} {t : ATmps} {H : AH} {r s u : ResultVar} (h : fn.results = #[r, s, u]) : aresults P fn t H = (match aresult P H t r, aresult P H t s, aresult P H t u with | some a, some b, some c => some (.tuple #[a, b, c]) | _, _, _ => none) := by unfold aresults; rw [h]; rfl
theorem mixed : Tryd.prog.follows .mixedOrders = true := by kernel_rfl
end Go.Proofs.YtldfnfpinemedaaDoor
