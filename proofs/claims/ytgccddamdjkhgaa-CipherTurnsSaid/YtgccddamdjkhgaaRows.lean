/-
  No cell of these rows narrows 'for every input' (looked for: loops, veiled, ifaces, maps, wideKeys, modest, calm, conditions, laid).
  DERIVED. THE GIVEN ROWS OF THIS SEAT. 4 by the template 'for every input the law returns true; each argument reads behind the call as it read before'; 0 by the template 'total and deterministic' (their statements: YtgccddamdjkhgaaTotals.lean).
  GIVEN WITH THE SEED: the statements are not yours to turn. If you find one false, say at which input.
  Laid BY PROGRAM, IN A SANDBOX (cutbox-rows.mjs): the forced cells as the released guide's own fill.sh prints them over the translation e518fa9eb4ce9681… (all of the seat's roots in one cut). By AI agents, Wed Nov 11 2026. No macro, syntax, notation, axiom, sorry.
-/
import Derived.Test.YtgccddamdjkhgaaChecked
import GoSem.Claim
import GoSem.ClaimJoined
import GoSem.ClaimMapViews
import Derived.JoinedTies
import Derived.KernelRfl
namespace Go.Proofs.Ytgccddamdjkhgaa
/- THE CELL 'sum', in the pinned program and in every row, IS THE sha256 OF THE DUMP (.gsa) THAT YtgccddamdjkhgaaProg.lean LOADS. Nothing in Lean hashes anything: it is a label: what it is worth is what the hold of that sum in a sandbox is worth. -/
noncomputable def Try.pinned : Pinned := { name := "ytgccddamdjkhgaa", sum := "e518fa9eb4ce9681a7ea7a58f9314959eee78ab37f2c4750445d7dc3c06be99c", checked := Try.checked }
namespace Rows
def none {H : Type} : Left H := { results := [], args := [] }

/-- 'carlinglaw04.CipherBlocks': WHATEVER THE INPUT: true; the input reads as it did. -/
def cipherBlocksSpec : ChangeSpec := { name := "cipherBlocks", fn := fun _ => fun
  | [d1, d2, d3] => { results := [.lit (.bool true)], args := [d1, d2, d3] }
  | _ => none }
def cipherBlocksRow : OpenClaim := { program := "ytgccddamdjkhgaa", sum := "e518fa9eb4ce9681a7ea7a58f9314959eee78ab37f2c4750445d7dc3c06be99c", func := "carling/carlinglaw04.CipherBlocks", spec := "cipherBlocks", unfollowed := true, recurses := true, apart := false }
def CipherBlocksSaid : Prop := cipherBlocksRow.holds Try.pinned (OpenSpec.ofChange cipherBlocksSpec)

/-- ITS FALSE NEIGHBOUR: 'it returns false'. Refute it at one input. -/
def cipherBlocksWrong : ChangeSpec := { name := "cipherBlocks", fn := fun _ => fun
  | [d1, d2, d3] => { results := [.lit (.bool false)], args := [d1, d2, d3] }
  | _ => none }
def CipherBlocksWrongFalsely : Prop := cipherBlocksRow.holds Try.pinned (OpenSpec.ofChange cipherBlocksWrong)

/-- 'carlinglaw04.CipherTurns': WHATEVER THE INPUT: true; the input reads as it did. -/
def cipherTurnsSpec : ChangeSpec := { name := "cipherTurns", fn := fun _ => fun
  | [d1, d2, d3] => { results := [.lit (.bool true)], args := [d1, d2, d3] }
  | _ => none }
def cipherTurnsRow : OpenClaim := { program := "ytgccddamdjkhgaa", sum := "e518fa9eb4ce9681a7ea7a58f9314959eee78ab37f2c4750445d7dc3c06be99c", func := "carling/carlinglaw04.CipherTurns", spec := "cipherTurns", unfollowed := true, recurses := true, apart := false }
def CipherTurnsSaid : Prop := cipherTurnsRow.holds Try.pinned (OpenSpec.ofChange cipherTurnsSpec)

/-- ITS FALSE NEIGHBOUR: 'it returns false'. Refute it at one input. -/
def cipherTurnsWrong : ChangeSpec := { name := "cipherTurns", fn := fun _ => fun
  | [d1, d2, d3] => { results := [.lit (.bool false)], args := [d1, d2, d3] }
  | _ => none }
def CipherTurnsWrongFalsely : Prop := cipherTurnsRow.holds Try.pinned (OpenSpec.ofChange cipherTurnsWrong)

/-- 'carlinglaw04.CipherBack': WHATEVER THE INPUT: true; the input reads as it did. -/
def cipherBackSpec : ChangeSpec := { name := "cipherBack", fn := fun _ => fun
  | [d1, d2] => { results := [.lit (.bool true)], args := [d1, d2] }
  | _ => none }
def cipherBackRow : OpenClaim := { program := "ytgccddamdjkhgaa", sum := "e518fa9eb4ce9681a7ea7a58f9314959eee78ab37f2c4750445d7dc3c06be99c", func := "carling/carlinglaw04.CipherBack", spec := "cipherBack", unfollowed := true, recurses := true, apart := false }
def CipherBackSaid : Prop := cipherBackRow.holds Try.pinned (OpenSpec.ofChange cipherBackSpec)

/-- ITS FALSE NEIGHBOUR: 'it returns false'. Refute it at one input. -/
def cipherBackWrong : ChangeSpec := { name := "cipherBack", fn := fun _ => fun
  | [d1, d2] => { results := [.lit (.bool false)], args := [d1, d2] }
  | _ => none }
def CipherBackWrongFalsely : Prop := cipherBackRow.holds Try.pinned (OpenSpec.ofChange cipherBackWrong)

/-- 'carlinglaw04.CipherOne': WHATEVER THE INPUT: true; the input reads as it did. -/
def cipherOneSpec : ChangeSpec := { name := "cipherOne", fn := fun _ => fun
  | [d1, d2, d3] => { results := [.lit (.bool true)], args := [d1, d2, d3] }
  | _ => none }
def cipherOneRow : OpenClaim := { program := "ytgccddamdjkhgaa", sum := "e518fa9eb4ce9681a7ea7a58f9314959eee78ab37f2c4750445d7dc3c06be99c", func := "carling/carlinglaw04.CipherOne", spec := "cipherOne", unfollowed := true, recurses := true, apart := false }
def CipherOneSaid : Prop := cipherOneRow.holds Try.pinned (OpenSpec.ofChange cipherOneSpec)

/-- ITS FALSE NEIGHBOUR: 'it returns false'. Refute it at one input. -/
def cipherOneWrong : ChangeSpec := { name := "cipherOne", fn := fun _ => fun
  | [d1, d2, d3] => { results := [.lit (.bool false)], args := [d1, d2, d3] }
  | _ => none }
def CipherOneWrongFalsely : Prop := cipherOneRow.holds Try.pinned (OpenSpec.ofChange cipherOneWrong)

/- THE SECOND FORM. 'bulk': how many values and letters a reading holds, each counted each time it is reached (what is shared counts as often as it is met; a slice's spare places count too). A statement '..UptoSaid' is the law's where the arguments, and the package variables that the reading takes, are together of bulk at most 1048576: NARROWER than '..Said'. Prove '..Said' where nothing that the law and all that it calls make is longer than what came in: it says more and counts as full. Else prove '..UptoSaid'. A law counts once. -/
mutual
def uptoBulk {H : Type} : DataW H → Nat
  | .lit (.string bytes) => bytes.length + 1
  | .lit _ => 1
  | .nil => 1
  | .ptr d => uptoBulk d + 1
  | .slice elems spare => uptoBulkAll elems + uptoBulkAll spare + 1
  | .agg parts => uptoBulkAll parts + 1
  | .iface _ d => uptoBulk d + 1
  | .map entries => uptoBulkEntries entries + 1
  | .held _ => 1
def uptoBulkAll {H : Type} : List (DataW H) → Nat
  | [] => 0
  | d :: r => uptoBulk d + uptoBulkAll r
def uptoBulkEntries {H : Type} : List (Lit × DataW H) → Nat
  | [] => 0
  | x :: r => uptoBulkEntry x + uptoBulkEntries r
def uptoBulkEntry {H : Type} : Lit × DataW H → Nat
  | (.string bytes, d) => bytes.length + uptoBulk d + 1
  | (_, d) => uptoBulk d + 1
 end
def uptoSmall : (H : Type) → List (DataW H) → Bool := fun _ ds => decide (uptoBulkAll ds ≤ 1048576)
def OpenSpec.upto (s : _root_.Go.ChangeSpec) : _root_.Go.OpenSpec := { _root_.Go.OpenSpec.ofChange s with cond := some uptoSmall }

/-- 'carlinglaw04.CipherBlocks', WHERE WHAT IT READS IS OF BULK AT MOST 1048576: true; the input reads as it did. -/
def cipherBlocksUptoRow : OpenClaim := { program := "ytgccddamdjkhgaa", sum := "e518fa9eb4ce9681a7ea7a58f9314959eee78ab37f2c4750445d7dc3c06be99c", func := "carling/carlinglaw04.CipherBlocks", spec := "cipherBlocks", unfollowed := true, recurses := true, apart := false, narrowed := true }
def CipherBlocksUptoSaid : Prop := cipherBlocksUptoRow.holds Try.pinned (OpenSpec.upto cipherBlocksSpec)

/-- 'carlinglaw04.CipherTurns', WHERE WHAT IT READS IS OF BULK AT MOST 1048576: true; the input reads as it did. -/
def cipherTurnsUptoRow : OpenClaim := { program := "ytgccddamdjkhgaa", sum := "e518fa9eb4ce9681a7ea7a58f9314959eee78ab37f2c4750445d7dc3c06be99c", func := "carling/carlinglaw04.CipherTurns", spec := "cipherTurns", unfollowed := true, recurses := true, apart := false, narrowed := true }
def CipherTurnsUptoSaid : Prop := cipherTurnsUptoRow.holds Try.pinned (OpenSpec.upto cipherTurnsSpec)

/-- 'carlinglaw04.CipherBack', WHERE WHAT IT READS IS OF BULK AT MOST 1048576: true; the input reads as it did. -/
def cipherBackUptoRow : OpenClaim := { program := "ytgccddamdjkhgaa", sum := "e518fa9eb4ce9681a7ea7a58f9314959eee78ab37f2c4750445d7dc3c06be99c", func := "carling/carlinglaw04.CipherBack", spec := "cipherBack", unfollowed := true, recurses := true, apart := false, narrowed := true }
def CipherBackUptoSaid : Prop := cipherBackUptoRow.holds Try.pinned (OpenSpec.upto cipherBackSpec)

/-- 'carlinglaw04.CipherOne', WHERE WHAT IT READS IS OF BULK AT MOST 1048576: true; the input reads as it did. -/
def cipherOneUptoRow : OpenClaim := { program := "ytgccddamdjkhgaa", sum := "e518fa9eb4ce9681a7ea7a58f9314959eee78ab37f2c4750445d7dc3c06be99c", func := "carling/carlinglaw04.CipherOne", spec := "cipherOne", unfollowed := true, recurses := true, apart := false, narrowed := true }
def CipherOneUptoSaid : Prop := cipherOneUptoRow.holds Try.pinned (OpenSpec.upto cipherOneSpec)

end Rows
end Go.Proofs.Ytgccddamdjkhgaa
