/- The listed variables as the walks want them. -/
import Derived.Test.YtldfnfpinemedaaDoorDor
import Derived.Test.YtldfnfpinemedaaDoorFa6
import Derived.Lib.LaidTab
namespace Go.Proofs.YtldfnfpinemedaaDoor
open Go Go.ChangeShapes Go.WideShapes Go.ChangeAt Go.RowKit
theorem et_name : Tryd.prog.globalNamed "errors.errorType" = some 0 := by kernel_rfl
theorem rt_num : (Tryd.prog.cutTypes.find? (·.1 == "internal/reflectlite.rtype")).map (·.2) = some 112 := by kernel_rfl
theorem one_row : ((List.range 201).filter fun t => Tryd.prog.rowNamed t [101, 114, 114, 111, 114]) = [26] := by kernel_rfl
theorem n_types : Tryd.prog.types.size = 201 := by kernel_rfl
theorem tab_datum : (Rows.laid_internal_strconv_uint64pow10 : DataW Unit) = Lib.tabData .u64 Lib.pow10Tab := by kernel_rfl
theorem obj_of_var {W : World} {name : String} {g : Nat} {cs : Array Value} (hg : Tryd.prog.globalNamed name = some g) (h : W.var? Tryd.prog name = some cs) : ∃ (ty : TypeId) (fr : Nat × Nat), W.heap[g]? = some (.cells cs ty fr) := by
  unfold World.var? at h
  rw [hg] at h
  simp only [Option.bind_some] at h
  split at h
  · rename_i c t f hh
    cases h
    exact ⟨t, f, hh⟩
  · cases h
theorem fix_of_laid {W : World} (h : laidMetH Tryd.prog laidL W) : ∃ os, okG os ∧ HeapL W [0, 1] os := by
  have h' : laidMet Tryd.prog [("math/bits.deBruijn32tab", Rows.laid_math_bits_deBruijn32tab), ("math/bits.deBruijn64tab", Rows.laid_math_bits_deBruijn64tab), ("internal/strconv.uint64pow10", Rows.laid_internal_strconv_uint64pow10)] W ∧ handlesMet Tryd.prog [("errors.errorType", Rows.laid_errors_errorType)] W := h
  obtain ⟨name, u, ty, e1, e2, e3, e4, e5⟩ := h'.2 _ (List.mem_singleton.2 rfl)
  have en : name = [101, 114, 114, 111, 114] := (Option.some.inj e1).symm
  subst en
  obtain rfl := Option.some.inj (rt_num.symm.trans e2)
  have hm : ty ∈ (List.range 201).filter fun t => Tryd.prog.rowNamed t [101, 114, 114, 111, 114] := List.mem_filter.2 ⟨List.mem_range.2 (by rw [← n_types]; exact e3), e4⟩
  rw [one_row] at hm
  obtain rfl := List.mem_singleton.1 hm
  have hh : typeHandle Tryd.prog 26 = hnd 26 := by kernel_rfl
  rw [hh] at e5
  obtain ⟨ty0, fr0, o0⟩ := obj_of_var et_name e5
  obtain ⟨ps, ⟨g1, t1, c1, f1, p1, q1, -, -, -, -, ⟨g2, t2, c2, f2, p2, q2, -, -, -, -, ⟨g3, t3, c3, f3, p3, q3, hg3, ht3, hvar, hd, -, -⟩, -⟩, -⟩, -⟩ := h'.1
  rw [tab_datum] at hd
  have htab : Lib.TabIs Tryd.prog W "internal/strconv.uint64pow10" .u64 Lib.pow10Tab := by
    have hty : (Tryd.prog.globals[1]?).map (·.type) = some 162 := by kernel_rfl
    obtain rfl := Option.some.inj (pow_name.symm.trans hg3)
    obtain rfl := Option.some.inj (hty.symm.trans ht3)
    unfold Lib.TabIs
    rw [hvar, ← Lib.cells_of_tab (n := 20) (e := 95) (k := .u64) (by kernel_rfl) (by kernel_rfl) (by kernel_rfl) (by kernel_rfl) hd]
  obtain ⟨ty1, fr1, o1⟩ := obj_of_var pow_name htab
  exact ⟨[_, _], ⟨⟨_, ty0, fr0, rfl, rfl⟩, ⟨ty1, fr1, rfl⟩⟩, o0, o1, trivial⟩
end Go.Proofs.YtldfnfpinemedaaDoor
