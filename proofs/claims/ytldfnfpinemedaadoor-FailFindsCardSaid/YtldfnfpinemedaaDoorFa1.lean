/- errors.As, errors.Is over abstract memory. -/
import Derived.Test.YtldfnfpinemedaaDoorFe5
import Derived.Test.YtldfnfpinemedaaDoorC8
import Derived.Test.YtldfnfpinemedaaDoorBda
import Derived.Test.YtldfnfpinemedaaDoorRot
namespace Go.Proofs.YtldfnfpinemedaaDoor
open Go Go.RowKit
set_option linter.unusedSimpArgs false
set_option linter.unusedVariables false
set_option maxRecDepth 4000
/-- What the machine has grown by is not spoken of. -/
theorem Sim.grows {φ : Phi} {H : AH} {W W' : World} (h : Sim φ H W) (g : Grows W W') : Sim φ H W' :=
  ⟨fun x bi hx => ⟨(h.dom x bi hx).1, Nat.lt_of_lt_of_le (h.dom x bi hx).2 g.size⟩,
   fun x cs bi h1 h2 => by rw [g.old _ (h.dom x bi h2).2]; exact h.own x cs bi h1 h2,
   fun x cs bi h1 h2 => by rw [g.old _ (h.dom x bi h2).2]; exact h.ro x cs bi h1 h2,
   fun x es bi h1 h2 => by rw [g.old _ (h.dom x bi h2).2]; exact h.map x es bi h1 h2,
   fun x mm b p h1 => by
    obtain ⟨bi, o, d1, d2, d3, d4⟩ := h.oddm x mm b p h1
    exact ⟨bi, o, d1, d2, by rw [g.old _ (by rw [← d2]; exact (h.dom x bi d1).2)]; exact d3, d4⟩, h.sep⟩
theorem Ev.grows {φ : Phi} {H : AH} {W W' : World} (g : Grows W W') : Ev φ H W φ H W' :=
  ⟨g.os, g.tape, g.output, g.size, Nat.le_refl _, fun _ _ => rfl, fun _ _ _ => rfl, fun b hb _ => g.old b hb, fun x c bi h1 hm h2 _ => ⟨x, c, bi, h1, hm, h2, rfl⟩⟩
/-- An error that the program made: layers over a last one. -/
def ChA (H : AH) : Nat → Value → Value → Prop
  | 0, v, z => v = z
  | n + 1, v, z => ∃ (g : Nat) (op path : ByteArray) (u : Value), v = .iface 40 (.pointer (some ⟨g, 0, none⟩)) ∧ H[g]? = some (.own [.string op, .string path, u]) ∧ ChA H n u z
theorem ChA.mono {H H' : AH} (e : Ext H H') : ∀ {n : Nat} {v z : Value}, ChA H n v z → ChA H' n v z
  | 0, _, _, h => h
  | _ + 1, _, _, ⟨g, op, p, u, h1, h2, h3⟩ => ⟨g, op, p, u, h1, e _ _ h2, h3.mono e⟩
theorem cell_of {W : World} {b i : Nat} {C : Array Value} {ty : TypeId} {fr : Nat × Nat} {v : Value} (h : W.heap[b]? = some (.cells C ty fr)) (hv : C[i]? = some v) : W.cell? ⟨b, i, none⟩ = some v := by
  simp [World.cell?, h, hv]
theorem ChA.conc {φ : Phi} {H : AH} {W : World} (hS : Sim φ H W) : ∀ {n : Nat} {v z v' : Value}, ChA H n v z → VR φ v v' → ∃ z', VR φ z z' ∧ ChW W n v' z'
  | 0, v, z, v', h, hv => ⟨v', h ▸ hv, rfl⟩
  | n + 1, v, z, v', ⟨g, op, p, u, h1, h2, h3⟩, hv => by
    subst h1
    cases hv with
    | iface _ hp =>
      cases hp with
      | @ptr _ _ bi hφ =>
        obtain ⟨C, ty, fr, d1, d2, d3, d4, d5⟩ := hS.own g _ bi h2 hφ
        obtain ⟨u', k1, k2⟩ := d5 2 u rfl
        obtain ⟨z', m1, m2⟩ := ChA.conc hS h3 k2
        exact ⟨z', m1, bi.blk, bi.off + 0, u', rfl, cell_of d1 k1, m2⟩
/-- The variable errors.errorType. -/
def okE (o : Obj) : Prop := ∃ (C : Array Value) (ty : TypeId) (fr : Nat × Nat), o = .cells C ty fr ∧ C[0]? = some (.iface 112 (.agg #[hnd 26]))
def ErrB (H : AH) : Prop := ∃ (g : Nat) (o : Obj), H[g]? = some (FixB 0 o) ∧ okE o
theorem ErrB.mono {H H' : AH} (h : ErrB H) (e : Ext H H') : ErrB H' := let ⟨g, o, h1, h2⟩ := h; ⟨g, o, e _ _ h1, h2⟩
theorem ErrB.errT {φ : Phi} {H : AH} {W : World} (hS : Sim φ H W) (h : ErrB H) : errT W := by
  obtain ⟨g, o, h1, C, ty, fr, rfl, h3⟩ := h
  obtain ⟨bi, o', d1, d2, d3, d4, d5⟩ := hS.oddm g false 0 _ h1
  have := d5 φ (fun _ _ h => h)
  subst this
  exact cell_of d3 h3
theorem two_args {φ : Phi} {a b : Value} {args' : Array Value} (hA : VRA φ #[a, b] args') : ∃ x0 x1, args' = #[x0, x1] ∧ VR φ a x0 ∧ VR φ b x1 := by
  obtain ⟨x0, x1, rfl⟩ : ∃ x0 x1, args' = #[x0, x1] := by
    have hs := hA.1
    match args', hs with
    | ⟨[x0, x1]⟩, _ => exact ⟨x0, x1, rfl⟩
  exact ⟨x0, x1, rfl, hA.2 0 (by simp) (by simp), hA.2 1 (by simp) (by simp)⟩
theorem vr_iface {φ : Phi} {t : Nat} {x v' : Value} (h : VR φ (.iface t x) v') : ∃ x', v' = .iface t x' ∧ VR φ x x' := by
  cases h with
  | iface _ h => exact ⟨_, rfl, h⟩
theorem vr_int {φ : Phi} {k : IntKind} {n : Int} {v' : Value} (h : VR φ (.int k n) v') : v' = .int k n := by cases h; rfl
theorem vr_ptr {φ : Phi} {g o : Nat} {v' : Value} (h : VR φ (.pointer (some ⟨g, o, none⟩)) v') : ∃ bi, φ g = some bi ∧ v' = .pointer (some ⟨bi.blk, bi.off + o, none⟩) := by
  cases h with
  | ptr h => exact ⟨_, h, rfl⟩
/-- errors.Is of a chain and a number. -/
theorem aIs28 (n t : Nat) (x : Value) (e m : Int) (H : AH) (hc : ChA H n (.iface t x) (.iface 28 (.int .i64 e))) : ACalls Tryd.prog 18 #[.iface t x, .iface 28 (.int .i64 m)] H fun w H' => w = .bool (e == m) ∧ H' = H := by
  intro φ W args' hS hA
  obtain ⟨x0, x1, rfl, h0, h1⟩ := two_args hA
  obtain ⟨z', hz, hcw⟩ := hc.conc hS h0
  obtain ⟨z', rfl, hz2⟩ := vr_iface hz
  obtain rfl := vr_int hz2
  obtain ⟨x1, rfl, h12⟩ := vr_iface h1
  obtain rfl := vr_int h12
  obtain ⟨x0, rfl, h02⟩ := vr_iface h0
  refine (eIs28 n t _ e m W hcw).mono ?_
  rintro ev W' ⟨rfl, rfl⟩
  exact ⟨_, _, H, φ, rfl, .bool _, ⟨rfl, rfl⟩, hS, Ev.refl _ _ _⟩
theorem aIs78 (n t : Nat) (x z : Value) (m : Int) (H : AH) (hc : ChA H n (.iface t x) (.iface 78 z)) : ACalls Tryd.prog 18 #[.iface t x, .iface 28 (.int .i64 m)] H fun w H' => w = .bool false ∧ H' = H := by
  intro φ W args' hS hA
  obtain ⟨x0, x1, rfl, h0, h1⟩ := two_args hA
  obtain ⟨z', hz, hcw⟩ := hc.conc hS h0
  obtain ⟨z', rfl, hz2⟩ := vr_iface hz
  obtain ⟨x1, rfl, h12⟩ := vr_iface h1
  obtain rfl := vr_int h12
  obtain ⟨x0, rfl, h02⟩ := vr_iface h0
  refine (eIs78 n t _ z' m W hcw).mono ?_
  rintro ev W' ⟨rfl, rfl⟩
  exact ⟨_, _, H, φ, rfl, .bool _, ⟨rfl, rfl⟩, hS, Ev.refl _ _ _⟩
theorem VRL.one' {φ : Phi} {v v' : Value} (h : VR φ v v') : VRL φ [v] [v'] := VRL.nil.cons h
/-- A cell of an own block is written behind some growth. -/
theorem set_grown {φ : Phi} {H : AH} {W W1 : World} (hS : Sim φ H W) (g1 : Grows W W1) {gt : Nat} {y v v' : Value} {bi : BI} (hg : H[gt]? = some (.own [y])) (hφ : φ gt = some bi) (hv : VR φ v v') :
    Sim φ (H.set gt (.own [v])) (W1.setCell ⟨bi.blk, bi.off + 0, none⟩ v') ∧ Ev φ H W φ (H.set gt (.own [v])) (W1.setCell ⟨bi.blk, bi.off + 0, none⟩ v') := by
  have hS1 := hS.grows g1
  obtain ⟨k1, k2, k3, k4⟩ := hS1.write (o := 0) (vs := [v]) (vs' := [v']) hg hφ (by simp) (VRL.one' hv)
  exact ⟨k3, (Ev.grows g1).trans k4⟩
theorem tgt {φ : Phi} {H : AH} {W : World} (hS : Sim φ H W) {gt : Nat} {y : Value} {bi : BI} (hg : H[gt]? = some (.own [y])) (hφ : φ gt = some bi) : (∃ old, W.cell? ⟨bi.blk, bi.off + 0, none⟩ = some old) ∧ W.frozen? ⟨bi.blk, bi.off + 0, none⟩ = false := by
  obtain ⟨k1, k2, -, -⟩ := hS.write (o := 0) (vs := [undef]) (vs' := [undef]) hg hφ (by simp) (VRL.one' (.any _))
  exact ⟨Option.isSome_iff_exists.1 (k1 0 (by simp)), k2 0 (by simp)⟩
/-- errors.As of a chain over a number, the target of the numbers' type. -/
theorem aAs28_hit (n t gt : Nat) (x y : Value) (e : Int) (H : AH) (hE : ErrB H) (hg : H[gt]? = some (.own [y])) (hc : ChA H n (.iface t x) (.iface 28 (.int .i64 e))) :
    ACalls Tryd.prog 37 #[.iface t x, .iface 72 (.pointer (some ⟨gt, 0, none⟩))] H fun w H' => w = .bool true ∧ H' = H.set gt (.own [.int .i64 e]) := by
  intro φ W args' hS hA
  obtain ⟨x0, x1, rfl, h0, h1⟩ := two_args hA
  obtain ⟨z', hz, hcw⟩ := hc.conc hS h0
  obtain ⟨z', rfl, hz2⟩ := vr_iface hz
  obtain rfl := vr_int hz2
  obtain ⟨x1, rfl, h12⟩ := vr_iface h1
  obtain ⟨bi, hφ, rfl⟩ := vr_ptr h12
  obtain ⟨x0, rfl, h02⟩ := vr_iface h0
  obtain ⟨⟨old, t1⟩, t2⟩ := tgt hS hg hφ
  refine (eAs28_hit n t _ e _ old W (hE.errT hS) t1 t2 hcw).mono ?_
  rintro ev W' ⟨rfl, w1, g1, rfl⟩
  obtain ⟨k1, k2⟩ := set_grown hS g1 hg hφ (VR.int .i64 e)
  exact ⟨_, _, _, φ, rfl, .bool _, ⟨rfl, rfl⟩, k1, k2⟩
theorem aAs28_miss (n t gt : Nat) (x z : Value) (H : AH) (hE : ErrB H) (hc : ChA H n (.iface t x) (.iface 78 z)) :
    ACalls Tryd.prog 37 #[.iface t x, .iface 72 (.pointer (some ⟨gt, 0, none⟩))] H fun w H' => w = .bool false ∧ H' = H := by
  intro φ W args' hS hA
  obtain ⟨x0, x1, rfl, h0, h1⟩ := two_args hA
  obtain ⟨z', hz, hcw⟩ := hc.conc hS h0
  obtain ⟨z', rfl, hz2⟩ := vr_iface hz
  obtain ⟨x1, rfl, h12⟩ := vr_iface h1
  obtain ⟨bi, hφ, rfl⟩ := vr_ptr h12
  obtain ⟨x0, rfl, h02⟩ := vr_iface h0
  refine (eAs28_miss n t _ z' _ W (hE.errT hS) hcw).mono ?_
  rintro ev W' ⟨rfl, g1⟩
  exact ⟨_, _, H, φ, rfl, .bool _, ⟨rfl, rfl⟩, hS.grows g1, Ev.grows g1⟩
/-- errors.As at a target of the type **fail.Error. -/
theorem aAs40_hit (g o gt : Nat) (y : Value) (H : AH) (hE : ErrB H) (hg : H[gt]? = some (.own [y])) :
    ACalls Tryd.prog 37 #[.iface 40 (.pointer (some ⟨g, o, none⟩)), .iface 100 (.pointer (some ⟨gt, 0, none⟩))] H fun w H' => w = .bool true ∧ H' = H.set gt (.own [.pointer (some ⟨g, o, none⟩)]) := by
  intro φ W args' hS hA
  obtain ⟨x0, x1, rfl, h0, h1⟩ := two_args hA
  obtain ⟨x1, rfl, h12⟩ := vr_iface h1
  obtain ⟨bi, hφ, rfl⟩ := vr_ptr h12
  obtain ⟨x0, rfl, h02⟩ := vr_iface h0
  obtain ⟨bj, hφ2, rfl⟩ := vr_ptr h02
  obtain ⟨⟨old, t1⟩, t2⟩ := tgt hS hg hφ
  refine (eAs40_hit _ _ old W (hE.errT hS) t1 t2).mono ?_
  rintro ev W' ⟨rfl, w1, g1, rfl⟩
  obtain ⟨k1, k2⟩ := set_grown hS g1 hg hφ (VR.ptr (o := o) hφ2)
  exact ⟨_, _, _, φ, rfl, .bool _, ⟨rfl, rfl⟩, k1, k2⟩
theorem aAs40_miss28 (e : Int) (gt : Nat) (H : AH) (hE : ErrB H) :
    ACalls Tryd.prog 37 #[.iface 28 (.int .i64 e), .iface 100 (.pointer (some ⟨gt, 0, none⟩))] H fun w H' => w = .bool false ∧ H' = H := by
  intro φ W args' hS hA
  obtain ⟨x0, x1, rfl, h0, h1⟩ := two_args hA
  obtain ⟨x1, rfl, h12⟩ := vr_iface h1
  obtain ⟨bi, hφ, rfl⟩ := vr_ptr h12
  obtain ⟨x0, rfl, h02⟩ := vr_iface h0
  obtain rfl := vr_int h02
  refine (eAs40_miss28 e _ W (hE.errT hS)).mono ?_
  rintro ev W' ⟨rfl, g1⟩
  exact ⟨_, _, H, φ, rfl, .bool _, ⟨rfl, rfl⟩, hS.grows g1, Ev.grows g1⟩
theorem aAs40_miss78 (z : Value) (gt : Nat) (H : AH) (hE : ErrB H) :
    ACalls Tryd.prog 37 #[.iface 78 z, .iface 100 (.pointer (some ⟨gt, 0, none⟩))] H fun w H' => w = .bool false ∧ H' = H := by
  intro φ W args' hS hA
  obtain ⟨x0, x1, rfl, h0, h1⟩ := two_args hA
  obtain ⟨x1, rfl, h12⟩ := vr_iface h1
  obtain ⟨bi, hφ, rfl⟩ := vr_ptr h12
  obtain ⟨x0, rfl, h02⟩ := vr_iface h0
  refine (eAs40_miss78 x0 _ W (hE.errT hS)).mono ?_
  rintro ev W' ⟨rfl, g1⟩
  exact ⟨_, _, H, φ, rfl, .bool _, ⟨rfl, rfl⟩, hS.grows g1, Ev.grows g1⟩
theorem one_arg {φ : Phi} {a : Value} {args' : Array Value} (hA : VRA φ #[a] args') : ∃ x0, args' = #[x0] ∧ VR φ a x0 := by
  obtain ⟨x0, rfl⟩ : ∃ x0, args' = #[x0] := by
    have hs := hA.1
    match args', hs with
    | ⟨[x0]⟩, _ => exact ⟨x0, rfl⟩
  exact ⟨x0, rfl, hA.2 0 (by simp) (by simp)⟩
theorem aUnwrap (g : Nat) (op path : ByteArray) (u : Value) (H : AH) (h : H[g]? = some (.own [.string op, .string path, u])) :
    ACalls Tryd.prog 23 #[.iface 40 (.pointer (some ⟨g, 0, none⟩))] H fun w H' => w = u ∧ H' = H := by
  intro φ W args' hS hA
  obtain ⟨x0, rfl, h0⟩ := one_arg hA
  obtain ⟨x0, rfl, h02⟩ := vr_iface h0
  obtain ⟨bi, hφ, rfl⟩ := vr_ptr h02
  obtain ⟨C, ty, fr, d1, d2, d3, d4, d5⟩ := hS.own g _ bi h hφ
  obtain ⟨u', k1, k2⟩ := d5 2 u rfl
  refine (eUnwrap bi.blk (bi.off + 0) u' W (cell_of d1 k1)).mono ?_
  rintro ev W' ⟨rfl, rfl⟩
  exact ⟨_, _, H, φ, rfl, k2, ⟨rfl, rfl⟩, hS, Ev.refl _ _ _⟩
end Go.Proofs.YtldfnfpinemedaaDoor
