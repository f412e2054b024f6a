/- errors.As, errors.Is, errors.Unwrap, machine's level. -/
import Derived.Test.YtldfnfpinemedaaDoorFe3
namespace Go.Proofs.YtldfnfpinemedaaDoor
open Go Go.RowKit Go.Extern.Stop Go.Stop Go.Extern
set_option linter.unusedSimpArgs false
set_option linter.unusedVariables false
set_option maxRecDepth 4000
theorem ne_iface (tx ty : TypeId) (vx vy : Value) (hne : tx ≠ ty) (w : World) : (binOp .eql 26 (.iface tx vx) (.iface ty vy)).run Tryd.prog w = .ok (.bool false) w := run_eql_iface_types tx ty vx vy u26 hne w
theorem eq_errno (n m : Int) (w : World) : (binOp .eql 26 (.iface 28 (.int .i64 n)) (.iface 28 (.int .i64 m))).run Tryd.prog w = .ok (.bool (n == m)) w := by
  have h : ∀ d : Nat, (Op.equalIn (d + 2) 26 (.iface 28 (.int .i64 n)) (.iface 28 (.int .i64 m))).run Tryd.prog w = .ok (n == m) w := fun d => by
    have c : Tryd.t28.comparable = true := by kernel_rfl
    simp [Op.equalIn, run_underlying u26, run_underlying u28, c]
  simp only [binOp]
  simp [Op.equal, Op.maxDepth, h 9998]
theorem cmp28' (w : World) : (ReflectliteType.method (fun t => do Rtype.noPackHeld "Comparable" t; (fun a : TypeInfo => Value.bool a.comparable) <$> typeInfo t) #[.agg #[hnd 28]]).run Tryd.prog w = .ok (.bool true) w := by kernel_rfl
theorem is28 (n : Nat) (v : Value) (e m : Int) (w : World) (hc : ChW w n v (.iface 28 (.int .i64 e))) :
    Calls Tryd.prog 41 #[v, .iface 28 (.int .i64 m), .bool true] w fun ev w' => ev = .returned (.bool (e == m)) ∧ w' = w := by
  have mU := methodUnwrap
  have n1 := no40_114
  have n1' := no28_114
  have n2 := has40_81
  have n3 := no28_81
  have n4 := no28_117
  have q1 := eq_errno e m
  have q2 : ∀ (x : Value) (w : World), (binOp .eql 26 (.iface 40 x) (.iface 28 (.int .i64 m))).run Tryd.prog w = .ok (.bool false) w := fun x w => ne_iface 40 28 x _ (by decide) w
  have C : Aside (ChW w n v (.iface 28 (.int .i64 e))) := hc
  clear hc
  go_enter Tryd.func41, Tryd.ntmps41
  go_wp2
  go_loopg [0] n (fun k s0 wr => w = wr ∧ Aside (ChW wr k s0 (.iface 28 (.int .i64 e))))
  case atStart => exact ⟨rfl, C⟩
  case round =>
    obtain ⟨rfl, A⟩ := hrel
    cases gk with
    | zero =>
      have hv : u0 = .iface 28 (.int .i64 e) := A
      subst hv
      clear A C
      cases hem : (e == m)
      · rw [hem] at q1
        go_wp2
        go_ret
        exact ⟨by rw [hem]; rfl, rfl⟩
      · rw [hem] at q1
        go_wp2
        go_ret
        exact ⟨by rw [hem]; rfl, rfl⟩
    | succ k =>
      obtain ⟨a, o, u, rfl, hu, A2⟩ := A
      obtain ⟨t', x', rfl⟩ := ChW.iface A2 rfl
      have A3 : Aside (ChW w k (.iface t' x') (.iface 28 (.int .i64 e))) := A2
      clear A2 C
      go_wp2
      go_roundg k
      case measure => omega
      case rel => exact ⟨rfl, A3⟩
theorem is78 (n : Nat) (v x : Value) (m : Int) (w : World) (hc : ChW w n v (.iface 78 x)) :
    Calls Tryd.prog 41 #[v, .iface 28 (.int .i64 m), .bool true] w fun ev w' => ev = .returned (.bool false) ∧ w' = w := by
  have mU := methodUnwrap
  have n1 := no40_114
  have n1' := no78_114
  have n2 := has40_81
  have n3 := no78_81
  have n4 := no78_117
  have q1 : ∀ (x : Value) (w : World), (binOp .eql 26 (.iface 78 x) (.iface 28 (.int .i64 m))).run Tryd.prog w = .ok (.bool false) w := fun x w => ne_iface 78 28 x _ (by decide) w
  have q2 : ∀ (x : Value) (w : World), (binOp .eql 26 (.iface 40 x) (.iface 28 (.int .i64 m))).run Tryd.prog w = .ok (.bool false) w := fun x w => ne_iface 40 28 x _ (by decide) w
  have C : Aside (ChW w n v (.iface 78 x)) := hc
  clear hc
  go_enter Tryd.func41, Tryd.ntmps41
  go_wp2
  go_loopg [0] n (fun k s0 wr => w = wr ∧ Aside (ChW wr k s0 (.iface 78 x)))
  case atStart => exact ⟨rfl, C⟩
  case round =>
    obtain ⟨rfl, A⟩ := hrel
    cases gk with
    | zero =>
      have hv : u0 = .iface 78 x := A
      subst hv
      clear A C
      go_wp2
      go_ret
      exact ⟨rfl, rfl⟩
    | succ k =>
      obtain ⟨a, o, u, rfl, hu, A2⟩ := A
      obtain ⟨t', x', rfl⟩ := ChW.iface A2 rfl
      have A3 : Aside (ChW w k (.iface t' x') (.iface 78 x)) := A2
      clear A2 C
      go_wp2
      go_roundg k
      case measure => omega
      case rel => exact ⟨rfl, A3⟩
/-- errors.Is of a chain and a number. -/
theorem eIs28 (n : Nat) (t : Nat) (x : Value) (e m : Int) (w : World) (hc : ChW w n (.iface t x) (.iface 28 (.int .i64 e))) :
    Calls Tryd.prog 18 #[.iface t x, .iface 28 (.int .i64 m)] w fun ev w' => ev = .returned (.bool (e == m)) ∧ w' = w := by
  have h40 := x40
  have h129 := x129
  have tO := typeOf28
  have mC := methodComparable
  have c := cmp28'
  have C : Aside (ChW w n (.iface t x) (.iface 28 (.int .i64 e))) := hc
  clear hc
  go_enter Tryd.func18, Tryd.ntmps18
  go_wp2_with (go_at_call 41; refine (is28 n _ e m _ ?_).mono ?_; exact C.out; rintro e w' ⟨rfl, rfl⟩)
  go_ret
  exact ⟨rfl, rfl⟩
theorem eIs78 (n : Nat) (t : Nat) (x z : Value) (m : Int) (w : World) (hc : ChW w n (.iface t x) (.iface 78 z)) :
    Calls Tryd.prog 18 #[.iface t x, .iface 28 (.int .i64 m)] w fun ev w' => ev = .returned (.bool false) ∧ w' = w := by
  have h40 := x40
  have h129 := x129
  have tO := typeOf28
  have mC := methodComparable
  have c := cmp28'
  have C : Aside (ChW w n (.iface t x) (.iface 78 z)) := hc
  clear hc
  go_enter Tryd.func18, Tryd.ntmps18
  go_wp2_with (go_at_call 41; refine (is78 n _ z m _ ?_).mono ?_; exact C.out; rintro e w' ⟨rfl, rfl⟩)
  go_ret
  exact ⟨rfl, rfl⟩
end Go.Proofs.YtldfnfpinemedaaDoor
