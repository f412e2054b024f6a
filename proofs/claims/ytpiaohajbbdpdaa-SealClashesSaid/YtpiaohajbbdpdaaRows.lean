/-
  No cell of these rows narrows 'for every input' (looked for: loops, veiled, ifaces, maps, wideKeys, modest, calm, conditions, laid).
  DERIVED. THE GIVEN ROWS OF THIS SEAT. 6 by the template 'for every input the law returns true; each argument reads behind the call as it read before'; 0 by the template 'total and deterministic' (their statements: YtpiaohajbbdpdaaTotals.lean).
  GIVEN WITH THE SEED: the statements are not yours to turn. If you find one false, say at which input.
  Laid BY PROGRAM, IN A SANDBOX (cutbox-rows.mjs): the forced cells as the released guide's own fill.sh prints them over the translation 53858e2d50f40017… (all of the seat's roots in one cut). By AI agents, Wed Nov 11 2026. No macro, syntax, notation, axiom, sorry.
-/
import Derived.Test.YtpiaohajbbdpdaaChecked
import GoSem.Claim
import GoSem.ClaimJoined
import GoSem.ClaimMapViews
import Derived.JoinedTies
import Derived.KernelRfl
namespace Go.Proofs.Ytpiaohajbbdpdaa
/- THE CELL 'sum', in the pinned program and in every row, IS THE sha256 OF THE DUMP (.gsa) THAT YtpiaohajbbdpdaaProg.lean LOADS. Nothing in Lean hashes anything: it is a label: what it is worth is what the hold of that sum in a sandbox is worth. -/
noncomputable def Try.pinned : Pinned := { name := "ytpiaohajbbdpdaa", sum := "53858e2d50f400178fdd78d4c6f54ead9a9185063e13c977e5963f18f5e520b9", checked := Try.checked }
namespace Rows
def none {H : Type} : Left H := { results := [], args := [] }

/-- 'carlinglaw09.SealHides': WHATEVER THE INPUT: true; the input reads as it did. -/
def sealHidesSpec : ChangeSpec := { name := "sealHides", fn := fun _ => fun
  | [d1, d2, d3] => { results := [.lit (.bool true)], args := [d1, d2, d3] }
  | _ => none }
def sealHidesRow : OpenClaim := { program := "ytpiaohajbbdpdaa", sum := "53858e2d50f400178fdd78d4c6f54ead9a9185063e13c977e5963f18f5e520b9", func := "carling/carlinglaw09.SealHides", spec := "sealHides", unfollowed := true, recurses := true, plainKeys := false, apart := false }
def SealHidesSaid : Prop := sealHidesRow.holds Try.pinned (OpenSpec.ofChange sealHidesSpec)

/-- ITS FALSE NEIGHBOUR: 'it returns false'. Refute it at one input. -/
def sealHidesWrong : ChangeSpec := { name := "sealHides", fn := fun _ => fun
  | [d1, d2, d3] => { results := [.lit (.bool false)], args := [d1, d2, d3] }
  | _ => none }
def SealHidesWrongFalsely : Prop := sealHidesRow.holds Try.pinned (OpenSpec.ofChange sealHidesWrong)

/-- 'carlinglaw09.SealOpens': WHATEVER THE INPUT: true; the input reads as it did. -/
def sealOpensSpec : ChangeSpec := { name := "sealOpens", fn := fun _ => fun
  | [d1, d2, d3] => { results := [.lit (.bool true)], args := [d1, d2, d3] }
  | _ => none }
def sealOpensRow : OpenClaim := { program := "ytpiaohajbbdpdaa", sum := "53858e2d50f400178fdd78d4c6f54ead9a9185063e13c977e5963f18f5e520b9", func := "carling/carlinglaw09.SealOpens", spec := "sealOpens", unfollowed := true, recurses := true, plainKeys := false, apart := false }
def SealOpensSaid : Prop := sealOpensRow.holds Try.pinned (OpenSpec.ofChange sealOpensSpec)

/-- ITS FALSE NEIGHBOUR: 'it returns false'. Refute it at one input. -/
def sealOpensWrong : ChangeSpec := { name := "sealOpens", fn := fun _ => fun
  | [d1, d2, d3] => { results := [.lit (.bool false)], args := [d1, d2, d3] }
  | _ => none }
def SealOpensWrongFalsely : Prop := sealOpensRow.holds Try.pinned (OpenSpec.ofChange sealOpensWrong)

/-- 'carlinglaw09.SealBack': WHATEVER THE INPUT: true; the input reads as it did. -/
def sealBackSpec : ChangeSpec := { name := "sealBack", fn := fun _ => fun
  | [d1, d2, d3] => { results := [.lit (.bool true)], args := [d1, d2, d3] }
  | _ => none }
def sealBackRow : OpenClaim := { program := "ytpiaohajbbdpdaa", sum := "53858e2d50f400178fdd78d4c6f54ead9a9185063e13c977e5963f18f5e520b9", func := "carling/carlinglaw09.SealBack", spec := "sealBack", unfollowed := true, recurses := true, plainKeys := false, apart := false }
def SealBackSaid : Prop := sealBackRow.holds Try.pinned (OpenSpec.ofChange sealBackSpec)

/-- ITS FALSE NEIGHBOUR: 'it returns false'. Refute it at one input. -/
def sealBackWrong : ChangeSpec := { name := "sealBack", fn := fun _ => fun
  | [d1, d2, d3] => { results := [.lit (.bool false)], args := [d1, d2, d3] }
  | _ => none }
def SealBackWrongFalsely : Prop := sealBackRow.holds Try.pinned (OpenSpec.ofChange sealBackWrong)

/-- 'carlinglaw09.SealKept': WHATEVER THE INPUT: true; the input reads as it did. -/
def sealKeptSpec : ChangeSpec := { name := "sealKept", fn := fun _ => fun
  | [d1, d2, d3] => { results := [.lit (.bool true)], args := [d1, d2, d3] }
  | _ => none }
def sealKeptRow : OpenClaim := { program := "ytpiaohajbbdpdaa", sum := "53858e2d50f400178fdd78d4c6f54ead9a9185063e13c977e5963f18f5e520b9", func := "carling/carlinglaw09.SealKept", spec := "sealKept", unfollowed := true, recurses := true, plainKeys := false, apart := false }
def SealKeptSaid : Prop := sealKeptRow.holds Try.pinned (OpenSpec.ofChange sealKeptSpec)

/-- ITS FALSE NEIGHBOUR: 'it returns false'. Refute it at one input. -/
def sealKeptWrong : ChangeSpec := { name := "sealKept", fn := fun _ => fun
  | [d1, d2, d3] => { results := [.lit (.bool false)], args := [d1, d2, d3] }
  | _ => none }
def SealKeptWrongFalsely : Prop := sealKeptRow.holds Try.pinned (OpenSpec.ofChange sealKeptWrong)

/-- 'carlinglaw09.SealClashes': WHATEVER THE INPUT: true; the input reads as it did. -/
def sealClashesSpec : ChangeSpec := { name := "sealClashes", fn := fun _ => fun
  | [d] => { results := [.lit (.bool true)], args := [d] }
  | _ => none }
def sealClashesRow : OpenClaim := { program := "ytpiaohajbbdpdaa", sum := "53858e2d50f400178fdd78d4c6f54ead9a9185063e13c977e5963f18f5e520b9", func := "carling/carlinglaw09.SealClashes", spec := "sealClashes", unfollowed := true, recurses := true, plainKeys := false, apart := false }
def SealClashesSaid : Prop := sealClashesRow.holds Try.pinned (OpenSpec.ofChange sealClashesSpec)

/-- ITS FALSE NEIGHBOUR: 'it returns false'. Refute it at one input. -/
def sealClashesWrong : ChangeSpec := { name := "sealClashes", fn := fun _ => fun
  | [d] => { results := [.lit (.bool false)], args := [d] }
  | _ => none }
def SealClashesWrongFalsely : Prop := sealClashesRow.holds Try.pinned (OpenSpec.ofChange sealClashesWrong)

/-- 'carlinglaw09.SealRefs': WHATEVER THE INPUT: true; the input reads as it did. -/
def sealRefsSpec : ChangeSpec := { name := "sealRefs", fn := fun _ => fun
  | [d1, d2] => { results := [.lit (.bool true)], args := [d1, d2] }
  | _ => none }
def sealRefsRow : OpenClaim := { program := "ytpiaohajbbdpdaa", sum := "53858e2d50f400178fdd78d4c6f54ead9a9185063e13c977e5963f18f5e520b9", func := "carling/carlinglaw09.SealRefs", spec := "sealRefs", unfollowed := true, recurses := true, plainKeys := false, apart := false }
def SealRefsSaid : Prop := sealRefsRow.holds Try.pinned (OpenSpec.ofChange sealRefsSpec)

/-- ITS FALSE NEIGHBOUR: 'it returns false'. Refute it at one input. -/
def sealRefsWrong : ChangeSpec := { name := "sealRefs", fn := fun _ => fun
  | [d1, d2] => { results := [.lit (.bool false)], args := [d1, d2] }
  | _ => none }
def SealRefsWrongFalsely : Prop := sealRefsRow.holds Try.pinned (OpenSpec.ofChange sealRefsWrong)

/- THE SECOND FORM. 'bulk': how many values and letters a reading holds, each counted each time it is reached (what is shared counts as often as it is met; a slice's spare places count too). A statement '..UptoSaid' is the law's where the arguments, and the package variables that the reading takes, are together of bulk at most 1048576: NARROWER than '..Said'. Prove '..Said' where nothing that the law and all that it calls make is longer than what came in: it says more and counts as full. Else prove '..UptoSaid'. A law counts once. -/
mutual
def uptoBulk {H : Type} : DataW H → Nat
  | .lit (.string bytes) => bytes.length + 1
  | .lit _ => 1
  | .nil => 1
  | .ptr d => uptoBulk d + 1
  | .slice elems spare => uptoBulkAll elems + uptoBulkAll spare + 1
  | .agg parts => uptoBulkAll parts + 1
  | .iface _ d => uptoBulk d + 1
  | .map entries => uptoBulkEntries entries + 1
  | .held _ => 1
def uptoBulkAll {H : Type} : List (DataW H) → Nat
  | [] => 0
  | d :: r => uptoBulk d + uptoBulkAll r
def uptoBulkEntries {H : Type} : List (Lit × DataW H) → Nat
  | [] => 0
  | x :: r => uptoBulkEntry x + uptoBulkEntries r
def uptoBulkEntry {H : Type} : Lit × DataW H → Nat
  | (.string bytes, d) => bytes.length + uptoBulk d + 1
  | (_, d) => uptoBulk d + 1
 end
def uptoSmall : (H : Type) → List (DataW H) → Bool := fun _ ds => decide (uptoBulkAll ds ≤ 1048576)
def OpenSpec.upto (s : _root_.Go.ChangeSpec) : _root_.Go.OpenSpec := { _root_.Go.OpenSpec.ofChange s with cond := some uptoSmall }

/-- 'carlinglaw09.SealHides', WHERE WHAT IT READS IS OF BULK AT MOST 1048576: true; the input reads as it did. -/
def sealHidesUptoRow : OpenClaim := { program := "ytpiaohajbbdpdaa", sum := "53858e2d50f400178fdd78d4c6f54ead9a9185063e13c977e5963f18f5e520b9", func := "carling/carlinglaw09.SealHides", spec := "sealHides", unfollowed := true, recurses := true, plainKeys := false, apart := false, narrowed := true }
def SealHidesUptoSaid : Prop := sealHidesUptoRow.holds Try.pinned (OpenSpec.upto sealHidesSpec)

/-- 'carlinglaw09.SealOpens', WHERE WHAT IT READS IS OF BULK AT MOST 1048576: true; the input reads as it did. -/
def sealOpensUptoRow : OpenClaim := { program := "ytpiaohajbbdpdaa", sum := "53858e2d50f400178fdd78d4c6f54ead9a9185063e13c977e5963f18f5e520b9", func := "carling/carlinglaw09.SealOpens", spec := "sealOpens", unfollowed := true, recurses := true, plainKeys := false, apart := false, narrowed := true }
def SealOpensUptoSaid : Prop := sealOpensUptoRow.holds Try.pinned (OpenSpec.upto sealOpensSpec)

/-- 'carlinglaw09.SealBack', WHERE WHAT IT READS IS OF BULK AT MOST 1048576: true; the input reads as it did. -/
def sealBackUptoRow : OpenClaim := { program := "ytpiaohajbbdpdaa", sum := "53858e2d50f400178fdd78d4c6f54ead9a9185063e13c977e5963f18f5e520b9", func := "carling/carlinglaw09.SealBack", spec := "sealBack", unfollowed := true, recurses := true, plainKeys := false, apart := false, narrowed := true }
def SealBackUptoSaid : Prop := sealBackUptoRow.holds Try.pinned (OpenSpec.upto sealBackSpec)

/-- 'carlinglaw09.SealKept', WHERE WHAT IT READS IS OF BULK AT MOST 1048576: true; the input reads as it did. -/
def sealKeptUptoRow : OpenClaim := { program := "ytpiaohajbbdpdaa", sum := "53858e2d50f400178fdd78d4c6f54ead9a9185063e13c977e5963f18f5e520b9", func := "carling/carlinglaw09.SealKept", spec := "sealKept", unfollowed := true, recurses := true, plainKeys := false, apart := false, narrowed := true }
def SealKeptUptoSaid : Prop := sealKeptUptoRow.holds Try.pinned (OpenSpec.upto sealKeptSpec)

/-- 'carlinglaw09.SealClashes', WHERE WHAT IT READS IS OF BULK AT MOST 1048576: true; the input reads as it did. -/
def sealClashesUptoRow : OpenClaim := { program := "ytpiaohajbbdpdaa", sum := "53858e2d50f400178fdd78d4c6f54ead9a9185063e13c977e5963f18f5e520b9", func := "carling/carlinglaw09.SealClashes", spec := "sealClashes", unfollowed := true, recurses := true, plainKeys := false, apart := false, narrowed := true }
def SealClashesUptoSaid : Prop := sealClashesUptoRow.holds Try.pinned (OpenSpec.upto sealClashesSpec)

/-- 'carlinglaw09.SealRefs', WHERE WHAT IT READS IS OF BULK AT MOST 1048576: true; the input reads as it did. -/
def sealRefsUptoRow : OpenClaim := { program := "ytpiaohajbbdpdaa", sum := "53858e2d50f400178fdd78d4c6f54ead9a9185063e13c977e5963f18f5e520b9", func := "carling/carlinglaw09.SealRefs", spec := "sealRefs", unfollowed := true, recurses := true, plainKeys := false, apart := false, narrowed := true }
def SealRefsUptoSaid : Prop := sealRefsUptoRow.holds Try.pinned (OpenSpec.upto sealRefsSpec)

end Rows
end Go.Proofs.Ytpiaohajbbdpdaa
