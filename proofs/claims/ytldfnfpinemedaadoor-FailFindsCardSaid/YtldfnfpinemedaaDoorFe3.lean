/- errors.As at a target of the type *api.Errno, machine's level. -/
import Derived.Test.YtldfnfpinemedaaDoorFe2
namespace Go.Proofs.YtldfnfpinemedaaDoor
open Go Go.RowKit Go.Extern.Stop Go.Stop Go.Extern
set_option linter.unusedSimpArgs false
set_option linter.unusedVariables false
set_option maxRecDepth 4000
/-- An error is a chain of *fail.Error values over a last one. -/
def ChW (w : World) : Nat → Value → Value → Prop
  | 0, v, z => v = z
  | n + 1, v, z => ∃ a o u, v = .iface 40 (.pointer (some ⟨a, o, none⟩)) ∧ w.cell? ⟨a, o + 2, none⟩ = some u ∧ ChW w n u z
theorem ChW.iface {w : World} {n : Nat} {v z : Value} (h : ChW w n v z) {t : Nat} {x : Value} (hz : z = .iface t x) : ∃ t' x', v = .iface t' x' := by
  cases n with
  | zero => exact ⟨t, x, (show v = z from h).trans hz⟩
  | succ n => obtain ⟨a, o, u, rfl, _⟩ := h; exact ⟨_, _, rfl⟩
theorem ChW.grows {w w' : World} (g : Grows w w') : ∀ {n : Nat} {v z : Value}, ChW w n v z → ChW w' n v z
  | 0, _, _, h => h
  | _ + 1, _, _, ⟨a, o, u, h1, h2, h3⟩ => ⟨a, o, u, h1, g.cell h2, ChW.grows g h3⟩
theorem as28_hit (n : Nat) (v : Value) (e : Int) (t b : Addr) (old : Value) (w : World) (hb : w.cell? b = some (.pointer (some t))) (ht0 : w.cell? t = some old) (hf0 : w.frozen? t = false) (hc : ChW w n v (.iface 28 (.int .i64 e))) :
    Calls Tryd.prog 57 #[v, .iface 72 (.pointer (some t)), .agg #[hnd 72, .pointer (some b), .int .u64 150], .iface 112 (.agg #[hnd 28])] w fun ev w' => ev = .returned (.bool true) ∧ ∃ w1, Grows w w1 ∧ w' = w1.setCell t (.int .i64 e) := by
  have h40 := x40
  have h54 := x54
  have h69 := x69
  have h70 := x70
  have h128 := x128
  have tO := typeOf28
  have tO2 := typeOf40
  have mA := methodAssignableTo
  have mU := methodUnwrap
  have a1 := asg28_28
  have a2 := asg40_28
  have v1 := valueOf28
  have n1 := no40_132
  have n2 := has40_81
  have g1 : Grows w (w.alloc (.cells #[hnd 72, .pointer (some b), .int .u64 150] 104)) := Grows.alloc _ _
  have el := elemV72 b t _ (g1.cell hb)
  have g2 := g1.trans (Grows.alloc _ (.cells #[.int .i64 e] 28))
  have st := set28 t ⟨(w.alloc (.cells #[hnd 72, .pointer (some b), .int .u64 150] 104)).heap.size, 0, none⟩ e old _ (by rw [World.cell?_alloc_at _ _ _ _ (by rfl)]; rfl) (g2.cell ht0) (by rw [g2.frozen ht0]; exact hf0)
  rw [World.size_alloc] at st
  have G : Aside (Grows w ((w.alloc (.cells #[hnd 72, .pointer (some b), .int .u64 150] 104)).alloc (.cells #[.int .i64 e] 28))) := g2
  have C : Aside (ChW (w.alloc (.cells #[hnd 72, .pointer (some b), .int .u64 150] 104)) n v (.iface 28 (.int .i64 e))) := hc.grows g1
  clear g1 g2 hc
  go_enter Tryd.func57, Tryd.ntmps57
  go_wp2
  go_loopg [0] n (fun k s0 wr => (w.alloc (.cells #[hnd 72, .pointer (some b), .int .u64 150] 104)) = wr ∧ Aside (ChW wr k s0 (.iface 28 (.int .i64 e))))
  case atStart => exact ⟨rfl, C⟩
  case round =>
    obtain ⟨rfl, A⟩ := hrel
    cases gk with
    | zero =>
      have hv : u0 = .iface 28 (.int .i64 e) := A
      subst hv
      clear A C
      go_wp2
      go_ret
      exact ⟨rfl, _, G.out, rfl⟩
    | succ k =>
      obtain ⟨a, o, u, rfl, hu, A2⟩ := A
      obtain ⟨t', x', rfl⟩ := ChW.iface A2 rfl
      have A3 : Aside (ChW (w.alloc (.cells #[hnd 72, .pointer (some b), .int .u64 150] 104)) k (.iface t' x') (.iface 28 (.int .i64 e))) := A2
      clear A2 C
      go_wp2
      go_roundg k
      case measure => omega
      case rel => exact ⟨rfl, A3⟩
theorem as28_miss (n : Nat) (v x : Value) (t b : Addr) (w : World) (hc : ChW w n v (.iface 78 x)) :
    Calls Tryd.prog 57 #[v, .iface 72 (.pointer (some t)), .agg #[hnd 72, .pointer (some b), .int .u64 150], .iface 112 (.agg #[hnd 28])] w fun ev w' => ev = .returned (.bool false) ∧ Grows w w' := by
  have h40 := x40
  have h128 := x128
  have tO := typeOf78
  have tO2 := typeOf40
  have mA := methodAssignableTo
  have mU := methodUnwrap
  have a1 := asg78_28
  have a2 := asg40_28
  have n3 := no78_132
  have n4 := no78_81
  have n5 := no78_117
  have n1 := no40_132
  have n2 := has40_81
  have g1 : Grows w (w.alloc (.cells #[hnd 72, .pointer (some b), .int .u64 150] 104)) := Grows.alloc _ _
  have G : Aside (Grows w (w.alloc (.cells #[hnd 72, .pointer (some b), .int .u64 150] 104))) := g1
  have C : Aside (ChW (w.alloc (.cells #[hnd 72, .pointer (some b), .int .u64 150] 104)) n v (.iface 78 x)) := hc.grows g1
  clear g1 hc
  go_enter Tryd.func57, Tryd.ntmps57
  go_wp2
  go_loopg [0] n (fun k s0 wr => (w.alloc (.cells #[hnd 72, .pointer (some b), .int .u64 150] 104)) = wr ∧ Aside (ChW wr k s0 (.iface 78 x)))
  case atStart => exact ⟨rfl, C⟩
  case round =>
    obtain ⟨rfl, A⟩ := hrel
    cases gk with
    | zero =>
      have hv : u0 = .iface 78 x := A
      subst hv
      clear A C
      go_wp2
      go_ret
      exact ⟨rfl, G.out⟩
    | succ k =>
      obtain ⟨a, o, u, rfl, hu, A2⟩ := A
      obtain ⟨t', x', rfl⟩ := ChW.iface A2 rfl
      have A3 : Aside (ChW (w.alloc (.cells #[hnd 72, .pointer (some b), .int .u64 150] 104)) k (.iface t' x') (.iface 78 x)) := A2
      clear A2 C
      go_wp2
      go_roundg k
      case measure => omega
      case rel => exact ⟨rfl, A3⟩
end Go.Proofs.YtldfnfpinemedaaDoor
