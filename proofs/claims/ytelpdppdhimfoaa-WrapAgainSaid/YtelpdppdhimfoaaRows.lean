/-
  No cell of these rows narrows 'for every input' (looked for: loops, veiled, ifaces, maps, wideKeys, modest, calm, conditions, laid).
  DERIVED. THE GIVEN ROWS OF THIS SEAT. 8 by the template 'for every input the law returns true; each argument reads behind the call as it read before'; 0 by the template 'total and deterministic' (their statements: YtelpdppdhimfoaaTotals.lean).
  GIVEN WITH THE SEED: the statements are not yours to turn. If you find one false, say at which input.
  Laid BY PROGRAM, IN A SANDBOX (cutbox-rows.mjs): the forced cells as the released guide's own fill.sh prints them over the translation 7a8f96f405bcdf42… (all of the seat's roots in one cut). By AI agents, Wed Nov 11 2026. No macro, syntax, notation, axiom, sorry.
-/
import Derived.Test.YtelpdppdhimfoaaChecked
import GoSem.Claim
import GoSem.ClaimJoined
import GoSem.ClaimMapViews
import Derived.JoinedTies
import Derived.KernelRfl
namespace Go.Proofs.Ytelpdppdhimfoaa
/- THE CELL 'sum', in the pinned program and in every row, IS THE sha256 OF THE DUMP (.gsa) THAT YtelpdppdhimfoaaProg.lean LOADS. Nothing in Lean hashes anything: it is a label: what it is worth is what the hold of that sum in a sandbox is worth. -/
noncomputable def Try.pinned : Pinned := { name := "ytelpdppdhimfoaa", sum := "7a8f96f405bcdf42d4543a55e8d3b4154bea811822be73b4d21617d1c96c1259", checked := Try.checked }
namespace Rows
def none {H : Type} : Left H := { results := [], args := [] }

/-- 'carlinglaw03.StretchKeys': WHATEVER THE INPUT: true; the input reads as it did. -/
def stretchKeysSpec : ChangeSpec := { name := "stretchKeys", fn := fun _ => fun
  | [d] => { results := [.lit (.bool true)], args := [d] }
  | _ => none }
def stretchKeysRow : OpenClaim := { program := "ytelpdppdhimfoaa", sum := "7a8f96f405bcdf42d4543a55e8d3b4154bea811822be73b4d21617d1c96c1259", func := "carling/carlinglaw03.StretchKeys", spec := "stretchKeys", unfollowed := true, recurses := true, apart := false }
def StretchKeysSaid : Prop := stretchKeysRow.holds Try.pinned (OpenSpec.ofChange stretchKeysSpec)

/-- ITS FALSE NEIGHBOUR: 'it returns false'. Refute it at one input. -/
def stretchKeysWrong : ChangeSpec := { name := "stretchKeys", fn := fun _ => fun
  | [d] => { results := [.lit (.bool false)], args := [d] }
  | _ => none }
def StretchKeysWrongFalsely : Prop := stretchKeysRow.holds Try.pinned (OpenSpec.ofChange stretchKeysWrong)

/-- 'carlinglaw03.StretchBlocks': WHATEVER THE INPUT: true; the input reads as it did. -/
def stretchBlocksSpec : ChangeSpec := { name := "stretchBlocks", fn := fun _ => fun
  | [d1, d2, d3] => { results := [.lit (.bool true)], args := [d1, d2, d3] }
  | _ => none }
def stretchBlocksRow : OpenClaim := { program := "ytelpdppdhimfoaa", sum := "7a8f96f405bcdf42d4543a55e8d3b4154bea811822be73b4d21617d1c96c1259", func := "carling/carlinglaw03.StretchBlocks", spec := "stretchBlocks", unfollowed := true, recurses := true, apart := false }
def StretchBlocksSaid : Prop := stretchBlocksRow.holds Try.pinned (OpenSpec.ofChange stretchBlocksSpec)

/-- ITS FALSE NEIGHBOUR: 'it returns false'. Refute it at one input. -/
def stretchBlocksWrong : ChangeSpec := { name := "stretchBlocks", fn := fun _ => fun
  | [d1, d2, d3] => { results := [.lit (.bool false)], args := [d1, d2, d3] }
  | _ => none }
def StretchBlocksWrongFalsely : Prop := stretchBlocksRow.holds Try.pinned (OpenSpec.ofChange stretchBlocksWrong)

/-- 'carlinglaw03.StretchBegins': WHATEVER THE INPUT: true; the input reads as it did. -/
def stretchBeginsSpec : ChangeSpec := { name := "stretchBegins", fn := fun _ => fun
  | [d1, d2] => { results := [.lit (.bool true)], args := [d1, d2] }
  | _ => none }
def stretchBeginsRow : OpenClaim := { program := "ytelpdppdhimfoaa", sum := "7a8f96f405bcdf42d4543a55e8d3b4154bea811822be73b4d21617d1c96c1259", func := "carling/carlinglaw03.StretchBegins", spec := "stretchBegins", unfollowed := true, recurses := true, apart := false }
def StretchBeginsSaid : Prop := stretchBeginsRow.holds Try.pinned (OpenSpec.ofChange stretchBeginsSpec)

/-- ITS FALSE NEIGHBOUR: 'it returns false'. Refute it at one input. -/
def stretchBeginsWrong : ChangeSpec := { name := "stretchBegins", fn := fun _ => fun
  | [d1, d2] => { results := [.lit (.bool false)], args := [d1, d2] }
  | _ => none }
def StretchBeginsWrongFalsely : Prop := stretchBeginsRow.holds Try.pinned (OpenSpec.ofChange stretchBeginsWrong)

/-- 'carlinglaw03.StretchRounds': WHATEVER THE INPUT: true; the input reads as it did. -/
def stretchRoundsSpec : ChangeSpec := { name := "stretchRounds", fn := fun _ => fun
  | [d] => { results := [.lit (.bool true)], args := [d] }
  | _ => none }
def stretchRoundsRow : OpenClaim := { program := "ytelpdppdhimfoaa", sum := "7a8f96f405bcdf42d4543a55e8d3b4154bea811822be73b4d21617d1c96c1259", func := "carling/carlinglaw03.StretchRounds", spec := "stretchRounds", unfollowed := true, recurses := true, apart := false }
def StretchRoundsSaid : Prop := stretchRoundsRow.holds Try.pinned (OpenSpec.ofChange stretchRoundsSpec)

/-- ITS FALSE NEIGHBOUR: 'it returns false'. Refute it at one input. -/
def stretchRoundsWrong : ChangeSpec := { name := "stretchRounds", fn := fun _ => fun
  | [d] => { results := [.lit (.bool false)], args := [d] }
  | _ => none }
def StretchRoundsWrongFalsely : Prop := stretchRoundsRow.holds Try.pinned (OpenSpec.ofChange stretchRoundsWrong)

/-- 'carlinglaw10.WrapWraps': WHATEVER THE INPUT: true; the input reads as it did. -/
def wrapWrapsSpec : ChangeSpec := { name := "wrapWraps", fn := fun _ => fun
  | [d] => { results := [.lit (.bool true)], args := [d] }
  | _ => none }
def wrapWrapsRow : OpenClaim := { program := "ytelpdppdhimfoaa", sum := "7a8f96f405bcdf42d4543a55e8d3b4154bea811822be73b4d21617d1c96c1259", func := "carling/carlinglaw10.WrapWraps", spec := "wrapWraps", unfollowed := true, recurses := true, apart := false }
def WrapWrapsSaid : Prop := wrapWrapsRow.holds Try.pinned (OpenSpec.ofChange wrapWrapsSpec)

/-- ITS FALSE NEIGHBOUR: 'it returns false'. Refute it at one input. -/
def wrapWrapsWrong : ChangeSpec := { name := "wrapWraps", fn := fun _ => fun
  | [d] => { results := [.lit (.bool false)], args := [d] }
  | _ => none }
def WrapWrapsWrongFalsely : Prop := wrapWrapsRow.holds Try.pinned (OpenSpec.ofChange wrapWrapsWrong)

/-- 'carlinglaw10.WrapUnwraps': WHATEVER THE INPUT: true; the input reads as it did. -/
def wrapUnwrapsSpec : ChangeSpec := { name := "wrapUnwraps", fn := fun _ => fun
  | [d1, d2] => { results := [.lit (.bool true)], args := [d1, d2] }
  | _ => none }
def wrapUnwrapsRow : OpenClaim := { program := "ytelpdppdhimfoaa", sum := "7a8f96f405bcdf42d4543a55e8d3b4154bea811822be73b4d21617d1c96c1259", func := "carling/carlinglaw10.WrapUnwraps", spec := "wrapUnwraps", unfollowed := true, recurses := true, apart := false }
def WrapUnwrapsSaid : Prop := wrapUnwrapsRow.holds Try.pinned (OpenSpec.ofChange wrapUnwrapsSpec)

/-- ITS FALSE NEIGHBOUR: 'it returns false'. Refute it at one input. -/
def wrapUnwrapsWrong : ChangeSpec := { name := "wrapUnwraps", fn := fun _ => fun
  | [d1, d2] => { results := [.lit (.bool false)], args := [d1, d2] }
  | _ => none }
def WrapUnwrapsWrongFalsely : Prop := wrapUnwrapsRow.holds Try.pinned (OpenSpec.ofChange wrapUnwrapsWrong)

/-- 'carlinglaw10.WrapBack': WHATEVER THE INPUT: true; the input reads as it did. -/
def wrapBackSpec : ChangeSpec := { name := "wrapBack", fn := fun _ => fun
  | [d] => { results := [.lit (.bool true)], args := [d] }
  | _ => none }
def wrapBackRow : OpenClaim := { program := "ytelpdppdhimfoaa", sum := "7a8f96f405bcdf42d4543a55e8d3b4154bea811822be73b4d21617d1c96c1259", func := "carling/carlinglaw10.WrapBack", spec := "wrapBack", unfollowed := true, recurses := true, apart := false }
def WrapBackSaid : Prop := wrapBackRow.holds Try.pinned (OpenSpec.ofChange wrapBackSpec)

/-- ITS FALSE NEIGHBOUR: 'it returns false'. Refute it at one input. -/
def wrapBackWrong : ChangeSpec := { name := "wrapBack", fn := fun _ => fun
  | [d] => { results := [.lit (.bool false)], args := [d] }
  | _ => none }
def WrapBackWrongFalsely : Prop := wrapBackRow.holds Try.pinned (OpenSpec.ofChange wrapBackWrong)

/-- 'carlinglaw10.WrapAgain': WHATEVER THE INPUT: true; the input reads as it did. -/
def wrapAgainSpec : ChangeSpec := { name := "wrapAgain", fn := fun _ => fun
  | [d1, d2, d3] => { results := [.lit (.bool true)], args := [d1, d2, d3] }
  | _ => none }
def wrapAgainRow : OpenClaim := { program := "ytelpdppdhimfoaa", sum := "7a8f96f405bcdf42d4543a55e8d3b4154bea811822be73b4d21617d1c96c1259", func := "carling/carlinglaw10.WrapAgain", spec := "wrapAgain", unfollowed := true, recurses := true, apart := false }
def WrapAgainSaid : Prop := wrapAgainRow.holds Try.pinned (OpenSpec.ofChange wrapAgainSpec)

/-- ITS FALSE NEIGHBOUR: 'it returns false'. Refute it at one input. -/
def wrapAgainWrong : ChangeSpec := { name := "wrapAgain", fn := fun _ => fun
  | [d1, d2, d3] => { results := [.lit (.bool false)], args := [d1, d2, d3] }
  | _ => none }
def WrapAgainWrongFalsely : Prop := wrapAgainRow.holds Try.pinned (OpenSpec.ofChange wrapAgainWrong)

/- THE SECOND FORM. 'bulk': how many values and letters a reading holds, each counted each time it is reached (what is shared counts as often as it is met; a slice's spare places count too). A statement '..UptoSaid' is the law's where the arguments, and the package variables that the reading takes, are together of bulk at most 1048576: NARROWER than '..Said'. Prove '..Said' where nothing that the law and all that it calls make is longer than what came in: it says more and counts as full. Else prove '..UptoSaid'. A law counts once. -/
mutual
def uptoBulk {H : Type} : DataW H → Nat
  | .lit (.string bytes) => bytes.length + 1
  | .lit _ => 1
  | .nil => 1
  | .ptr d => uptoBulk d + 1
  | .slice elems spare => uptoBulkAll elems + uptoBulkAll spare + 1
  | .agg parts => uptoBulkAll parts + 1
  | .iface _ d => uptoBulk d + 1
  | .map entries => uptoBulkEntries entries + 1
  | .held _ => 1
def uptoBulkAll {H : Type} : List (DataW H) → Nat
  | [] => 0
  | d :: r => uptoBulk d + uptoBulkAll r
def uptoBulkEntries {H : Type} : List (Lit × DataW H) → Nat
  | [] => 0
  | x :: r => uptoBulkEntry x + uptoBulkEntries r
def uptoBulkEntry {H : Type} : Lit × DataW H → Nat
  | (.string bytes, d) => bytes.length + uptoBulk d + 1
  | (_, d) => uptoBulk d + 1
 end
def uptoSmall : (H : Type) → List (DataW H) → Bool := fun _ ds => decide (uptoBulkAll ds ≤ 1048576)
def OpenSpec.upto (s : _root_.Go.ChangeSpec) : _root_.Go.OpenSpec := { _root_.Go.OpenSpec.ofChange s with cond := some uptoSmall }

/-- 'carlinglaw03.StretchKeys', WHERE WHAT IT READS IS OF BULK AT MOST 1048576: true; the input reads as it did. -/
def stretchKeysUptoRow : OpenClaim := { program := "ytelpdppdhimfoaa", sum := "7a8f96f405bcdf42d4543a55e8d3b4154bea811822be73b4d21617d1c96c1259", func := "carling/carlinglaw03.StretchKeys", spec := "stretchKeys", unfollowed := true, recurses := true, apart := false, narrowed := true }
def StretchKeysUptoSaid : Prop := stretchKeysUptoRow.holds Try.pinned (OpenSpec.upto stretchKeysSpec)

/-- 'carlinglaw03.StretchBlocks', WHERE WHAT IT READS IS OF BULK AT MOST 1048576: true; the input reads as it did. -/
def stretchBlocksUptoRow : OpenClaim := { program := "ytelpdppdhimfoaa", sum := "7a8f96f405bcdf42d4543a55e8d3b4154bea811822be73b4d21617d1c96c1259", func := "carling/carlinglaw03.StretchBlocks", spec := "stretchBlocks", unfollowed := true, recurses := true, apart := false, narrowed := true }
def StretchBlocksUptoSaid : Prop := stretchBlocksUptoRow.holds Try.pinned (OpenSpec.upto stretchBlocksSpec)

/-- 'carlinglaw03.StretchBegins', WHERE WHAT IT READS IS OF BULK AT MOST 1048576: true; the input reads as it did. -/
def stretchBeginsUptoRow : OpenClaim := { program := "ytelpdppdhimfoaa", sum := "7a8f96f405bcdf42d4543a55e8d3b4154bea811822be73b4d21617d1c96c1259", func := "carling/carlinglaw03.StretchBegins", spec := "stretchBegins", unfollowed := true, recurses := true, apart := false, narrowed := true }
def StretchBeginsUptoSaid : Prop := stretchBeginsUptoRow.holds Try.pinned (OpenSpec.upto stretchBeginsSpec)

/-- 'carlinglaw03.StretchRounds', WHERE WHAT IT READS IS OF BULK AT MOST 1048576: true; the input reads as it did. -/
def stretchRoundsUptoRow : OpenClaim := { program := "ytelpdppdhimfoaa", sum := "7a8f96f405bcdf42d4543a55e8d3b4154bea811822be73b4d21617d1c96c1259", func := "carling/carlinglaw03.StretchRounds", spec := "stretchRounds", unfollowed := true, recurses := true, apart := false, narrowed := true }
def StretchRoundsUptoSaid : Prop := stretchRoundsUptoRow.holds Try.pinned (OpenSpec.upto stretchRoundsSpec)

/-- 'carlinglaw10.WrapWraps', WHERE WHAT IT READS IS OF BULK AT MOST 1048576: true; the input reads as it did. -/
def wrapWrapsUptoRow : OpenClaim := { program := "ytelpdppdhimfoaa", sum := "7a8f96f405bcdf42d4543a55e8d3b4154bea811822be73b4d21617d1c96c1259", func := "carling/carlinglaw10.WrapWraps", spec := "wrapWraps", unfollowed := true, recurses := true, apart := false, narrowed := true }
def WrapWrapsUptoSaid : Prop := wrapWrapsUptoRow.holds Try.pinned (OpenSpec.upto wrapWrapsSpec)

/-- 'carlinglaw10.WrapUnwraps', WHERE WHAT IT READS IS OF BULK AT MOST 1048576: true; the input reads as it did. -/
def wrapUnwrapsUptoRow : OpenClaim := { program := "ytelpdppdhimfoaa", sum := "7a8f96f405bcdf42d4543a55e8d3b4154bea811822be73b4d21617d1c96c1259", func := "carling/carlinglaw10.WrapUnwraps", spec := "wrapUnwraps", unfollowed := true, recurses := true, apart := false, narrowed := true }
def WrapUnwrapsUptoSaid : Prop := wrapUnwrapsUptoRow.holds Try.pinned (OpenSpec.upto wrapUnwrapsSpec)

/-- 'carlinglaw10.WrapBack', WHERE WHAT IT READS IS OF BULK AT MOST 1048576: true; the input reads as it did. -/
def wrapBackUptoRow : OpenClaim := { program := "ytelpdppdhimfoaa", sum := "7a8f96f405bcdf42d4543a55e8d3b4154bea811822be73b4d21617d1c96c1259", func := "carling/carlinglaw10.WrapBack", spec := "wrapBack", unfollowed := true, recurses := true, apart := false, narrowed := true }
def WrapBackUptoSaid : Prop := wrapBackUptoRow.holds Try.pinned (OpenSpec.upto wrapBackSpec)

/-- 'carlinglaw10.WrapAgain', WHERE WHAT IT READS IS OF BULK AT MOST 1048576: true; the input reads as it did. -/
def wrapAgainUptoRow : OpenClaim := { program := "ytelpdppdhimfoaa", sum := "7a8f96f405bcdf42d4543a55e8d3b4154bea811822be73b4d21617d1c96c1259", func := "carling/carlinglaw10.WrapAgain", spec := "wrapAgain", unfollowed := true, recurses := true, apart := false, narrowed := true }
def WrapAgainUptoSaid : Prop := wrapAgainUptoRow.holds Try.pinned (OpenSpec.upto wrapAgainSpec)

end Rows
end Go.Proofs.Ytelpdppdhimfoaa
