/- Slices of known capacity: how a call learns an argument's, how a value forgets its own; slices.overlaps. -/
import Derived.Test.YtldfnfpinemedaaC7
import Derived.Laws.Externs
import Derived.Lib.Overlaps
namespace Go.Proofs.Ytldfnfpinemedaa
open Go Go.RowKit
set_option linter.unusedSimpArgs false
set_option linter.unusedVariables false
set_option maxRecDepth 4000
def padTo (cs : List Value) (m : Nat) : List Value := cs ++ List.replicate (m - cs.length) undef
theorem padTo_len (cs : List Value) (m : Nat) : cs.length ≤ (padTo cs m).length ∧ m ≤ (padTo cs m).length := by
  unfold padTo
  rw [List.length_append, List.length_replicate]; omega
theorem padTo_take (cs : List Value) (m : Nat) : (padTo cs m).take cs.length = cs := by
  unfold padTo
  rw [List.take_append_of_le_length (Nat.le_refl _), List.take_length]
theorem Sim.pad {φ : Phi} {H : AH} {W : World} (h : Sim φ H W) {g m : Nat} {cs : List Value} {bi : BI} (hg : H[g]? = some (.own cs)) (hφ : φ g = some bi) (hm : bi.off + m ≤ bi.room) :
    Sim φ (H.set g (.own (padTo cs m))) W ∧ Ev φ H W φ (H.set g (.own (padTo cs m))) W := by
  refine ⟨h.update hg hφ rfl (fun _ _ => rfl) ?_, Ev.update hg hφ rfl (fun _ _ => rfl) rfl rfl rfl⟩
  obtain ⟨C, ty, fr, h1, h2, h3, h4, h5⟩ := h.own g cs bi hg hφ
  refine ⟨C, ty, fr, h1, h2, h3, ?_, fun i v hv => ?_⟩
  · unfold padTo; rw [List.length_append, List.length_replicate]; omega
  · have hi : i < (padTo cs m).length := (List.getElem?_eq_some_iff.1 hv).1
    unfold padTo at hv hi
    rw [List.length_append, List.length_replicate] at hi
    rcases Nat.lt_or_ge i cs.length with hlt | hge
    · rw [List.getElem?_append_left hlt] at hv
      exact h5 i v hv
    · rw [List.getElem?_append_right hge] at hv
      obtain rfl := (List.mem_replicate.1 (List.mem_of_getElem? hv)).2
      have : bi.off + i < C.size := by omega
      exact ⟨C[bi.off + i], Array.getElem?_eq_getElem this, .any _⟩
/-- A call may be walked as if its first argument's capacity were known, whatever it is. -/
theorem acalls_X {P : Program} {f : FuncId} {g o n e : Nat} {cs : List Value} {y z : Value} {H : AH} {R : Value → AH → Prop} (hg : H[g]? = some (.own cs)) (hn : 0 < n) (he : e ≠ 0)
    (h : ∀ c, n ≤ c → ACalls P f #[.slice (some ⟨g, o, some c⟩) n e, y, z] (H.set g (.own (padTo cs (o + c * e)))) R) : ACalls P f #[.slice (some ⟨g, o, none⟩) n e, y, z] H R := by
  intro φ W args' hS hA
  have h3 : args'.size = 3 := hA.1.symm
  have hv := hA.2 0 (by simp) (by omega)
  have hy := hA.2 1 (by simp) (by omega)
  have hz := hA.2 2 (by simp) (by omega)
  simp only [List.getElem_toArray, List.getElem_cons_zero, List.getElem_cons_succ] at hv hy hz
  generalize hq : args'[0] = q at hv
  cases hv with
  | empty => exact absurd rfl (by omega)
  | @slice _ _ _ _ c bi hφ hnc hr =>
    have hr2 := hr.resolve_left he
    obtain ⟨k1, k2⟩ := hS.pad (m := o + c * e) hg hφ (by have := hr2.1; omega)
    refine (h c hnc φ W args' k1 ⟨by simp [h3], fun i h1 h2 => ?_⟩).mono ?_
    · match i, h1 with
      | 0, _ => simp only [List.getElem_toArray, List.getElem_cons_zero, hq]; exact .sliceX hφ hnc hr
      | 1, _ => exact hy
      | 2, _ => exact hz
    · rintro e' W' ⟨v, v', H', φ', e1, e2, e3, e4, e5⟩
      exact ⟨v, v', H', φ', e1, e2, e3, e4, k2.trans e5⟩
/-- A value without its capacity. -/
def unX : Value → Value
  | .slice (some ⟨g, o, some _⟩) n e => .slice (some ⟨g, o, none⟩) n e
  | v => v
theorem VR.unX {φ : Phi} {v v' : Value} (h : VR φ v v') : VR φ (unX v) v' := by
  cases h with
  | sliceX hφ hn hr => exact .slice hφ hn hr
  | nilmap => exact .nilmap
  | map h => exact .map h
  | any v' => exact .any _
  | skip => exact .skip
  | bool b => exact .bool b
  | int k n => exact .int k n
  | string s => exact .string s
  | nilptr => exact .nilptr
  | ptr h => exact .ptr h
  | nilslice => exact .nilslice
  | empty g0 o0 a' c' => exact .empty g0 o0 a' c'
  | slice h hn hr => exact .slice h hn hr
  | func fn h1 h2 hc hd => exact .func fn h1 h2 hc hd
  | nilFunc => exact .nilFunc
  | nilIface => exact .nilIface
  | iface t h => exact .iface t h
  | agg hs h => exact .agg hs h
  | tuple hs h => exact .tuple hs h
theorem ACalls.unX {P : Program} {f : FuncId} {args : Array Value} {H : AH} {R R' : Value → AH → Prop} (h : ACalls P f args H R) (hr : ∀ v H', R v H' → R' (unX v) H') : ACalls P f args H R' :=
  fun φ W args' hS hA => (h φ W args' hS hA).mono fun e W' ⟨v, v', H', φ', h1, h2, h3, h4, h5⟩ => ⟨_, v', H', φ', h1, h2.unX, hr _ _ h3, h4, h5⟩
/-- The function is slices.overlaps over some type of rows. -/
def OvF (P : Program) (k : FuncId) : Prop := ∃ fn tS tR e, P.funcs[k]? = some fn ∧ (fn.name == "runtime.NumGoroutine") = false ∧ fn.body.isNone = true ∧ Extern.findNext fn = none ∧
  Extern.find fn = some (Extern.SlicesOverlaps.overlaps #[tS, tS] #[tR]) ∧ P.underlying tS = some (.slice e) ∧ (P.info? e).isSome = true
/-- Rows of wide elements in two own blocks do not overlap. -/
theorem ov_ext {P : Program} {k : FuncId} (hk : OvF P k) {H : AH} {g1 o1 n1 e1 g2 o2 n2 e2 : Nat} {s1 s2 : Option Nat} {c1 c2 : List Value} (h1 : H[g1]? = some (.own c1)) (h2 : H[g2]? = some (.own c2)) (hne : g1 ≠ g2) (he1 : 2 ≤ e1) (he2 : 2 ≤ e2) (hn2 : 0 < n2) :
    AExt P k #[.slice (some ⟨g1, o1, s1⟩) n1 e1, .slice (some ⟨g2, o2, s2⟩) n2 e2] H fun w H' => w = .bool false ∧ H' = H := by
  intro φ W args' hS hA
  obtain ⟨fn, tS, tR, e, hf, hname, hb, hn, hfd, hu, hi⟩ := hk
  obtain ⟨i, hi⟩ := Option.isSome_iff_exists.1 hi
  have h3 : args'.size = 2 := hA.1.symm
  have hv := hA.2 0 (by simp) (by omega)
  have hy := hA.2 1 (by simp) (by omega)
  simp only [List.getElem_toArray, List.getElem_cons_zero, List.getElem_cons_succ] at hv hy
  have hargs : args' = #[args'[0], args'[1]] := by
    apply Array.ext
    · simp [h3]
    · intro j hj1 hj2
      match j, hj2 with
      | 0, _ => rfl
      | 1, _ => rfl
  refine ⟨.bool false, .bool false, .bool _, ⟨rfl, rfl⟩, ?_⟩
  rw [run_callFunc_extern hf hname hb hn hfd]
  suffices hrun : (Extern.SlicesOverlaps.overlaps #[tS, tS] #[tR] args').run P W = .ok (.bool false) W by rw [hrun]; rfl
  have part : ∀ (g o n e : Nat) (s : Option Nat) (c : List Value) (v' : Value), H[g]? = some (.own c) → 2 ≤ e → VR φ (.slice (some ⟨g, o, s⟩) n e) v' → ∃ bi cp, φ g = some bi ∧ v' = .slice (some ⟨bi.blk, bi.off + o, none⟩) n cp ∧ ∃ C ty fr, W.heap[bi.blk]? = some (.cells C ty fr) ∧ (0 < n → C.size ≠ 0) ∧ fr.1 = fr.2 := by
    intro g o n e s c v' hg he hv
    have key : ∀ (bi : BI) (cp : Nat), φ g = some bi → n ≤ cp → bi.off + o + cp * e ≤ bi.room → (2 ≤ e → bi.mrk = false) → ∃ C ty fr, W.heap[bi.blk]? = some (.cells C ty fr) ∧ (0 < n → C.size ≠ 0) ∧ fr.1 = fr.2 := by
      intro bi cp hφ hn hr hm
      obtain ⟨C, ty, fr, d1, d2, d3, d4⟩ := hS.own g c bi hg hφ
      refine ⟨C, ty, fr, d1, fun h0 => ?_, ?_⟩
      · have := Nat.mul_le_mul_right e (show 1 ≤ cp by omega); omega
      · rcases d3 with d3 | ⟨d3, _⟩
        · exact d3
        · rw [hm he] at d3; cases d3
    cases hv with
    | empty => omega
    | slice hφ hn hr =>
      rcases hr with hr | hr
      · omega
      · exact ⟨_, _, hφ, rfl, key _ _ hφ hn hr.1 hr.2⟩
    | sliceX hφ hn hr =>
      rcases hr with hr | hr
      · omega
      · exact ⟨_, _, hφ, rfl, key _ _ hφ hn hr.1 hr.2⟩
  obtain ⟨b1, p1, f1, q1, C1, y1, r1, w1, v1, z1⟩ := part g1 o1 n1 e1 s1 c1 _ h1 he1 hv
  obtain ⟨b2, p2, f2, q2, C2, y2, r2, w2, v2, z2⟩ := part g2 o2 n2 e2 s2 c2 _ h2 he2 hy
  have hbb : b1.blk ≠ b2.blk := hS.sep g1 g2 _ b1 b2 h1 ABlk.mine_own f1 (fun e => hne e.symm) f2 (by rw [h2]; simp)
  have fz : ∀ (b : Nat) (C : Array Value) (y : TypeId) (r : Nat × Nat) (k : Nat), W.heap[b]? = some (.cells C y r) → r.1 = r.2 → W.frozen? ⟨b, k, none⟩ = false := by
    intro b C y r k hh hr
    simp only [World.frozen?, hh]
    rcases r with ⟨lo, hi⟩
    simp only at hr ⊢
    rw [Bool.eq_false_iff]
    simp only [ne_eq, Bool.and_eq_true, decide_eq_true_eq]
    omega
  have sh : ∀ (b : Nat) (C : Array Value) (y : TypeId) (r : Nat × Nat), W.heap[b]? = some (.cells C y r) → W.shape? b = some (y, C.size) := by
    intro b C y r hh
    simp [World.shape?, hh]
  rw [hargs, q1, q2]
  have sz : ∀ w, (Go.sizeOf e).run P w = .ok i.size w := fun w => by simp [sizeOf, typeInfo, hi]
  exact Lib.run_overlaps_apart W tS tR e hu i.size sz _ _ n1 p1 n2 p2 hbb y1 y2 C1.size C2.size (sh _ _ _ _ w1) (sh _ _ _ _ w2) (v2 hn2) (fz _ _ _ _ _ w1 z1) (fz _ _ _ _ _ w1 z1)
end Go.Proofs.Ytldfnfpinemedaa
