/-
  No cell of these rows narrows 'for every input' (looked for: loops, veiled, ifaces, maps, wideKeys, modest, calm, conditions, laid).
  DERIVED. THE GIVEN ROWS OF THIS SEAT. 9 by the template 'for every input the law returns true; each argument reads behind the call as it read before'; 0 by the template 'total and deterministic' (their statements: YtjbockfjmomdjaaTotals.lean).
  GIVEN WITH THE SEED: the statements are not yours to turn. If you find one false, say at which input.
  Laid BY PROGRAM, IN A SANDBOX (cutbox-rows.mjs): the forced cells as the released guide's own fill.sh prints them over the translation 78bf6537ab83629e… (all of the seat's roots in one cut). By AI agents, Wed Nov 11 2026. No macro, syntax, notation, axiom, sorry.
-/
import Derived.Test.YtjbockfjmomdjaaChecked
import GoSem.Claim
import GoSem.ClaimJoined
import GoSem.ClaimMapViews
import Derived.JoinedTies
import Derived.KernelRfl
namespace Go.Proofs.Ytjbockfjmomdjaa
/- THE CELL 'sum', in the pinned program and in every row, IS THE sha256 OF THE DUMP (.gsa) THAT YtjbockfjmomdjaaProg.lean LOADS. Nothing in Lean hashes anything: it is a label: what it is worth is what the hold of that sum in a sandbox is worth. -/
noncomputable def Try.pinned : Pinned := { name := "ytjbockfjmomdjaa", sum := "78bf6537ab83629e1611a11561e6a6f7171052168d7ebca671dc9797e4d1343f", checked := Try.checked }
namespace Rows
def none {H : Type} : Left H := { results := [], args := [] }

/-- 'carlinglaw01.ShaSums': WHATEVER THE INPUT: true; the input reads as it did. -/
def shaSumsSpec : ChangeSpec := { name := "shaSums", fn := fun _ => fun
  | [d] => { results := [.lit (.bool true)], args := [d] }
  | _ => none }
def shaSumsRow : OpenClaim := { program := "ytjbockfjmomdjaa", sum := "78bf6537ab83629e1611a11561e6a6f7171052168d7ebca671dc9797e4d1343f", func := "carling/carlinglaw01.ShaSums", spec := "shaSums", apart := false }
def ShaSumsSaid : Prop := shaSumsRow.holds Try.pinned (OpenSpec.ofChange shaSumsSpec)

/-- ITS FALSE NEIGHBOUR: 'it returns false'. Refute it at one input. -/
def shaSumsWrong : ChangeSpec := { name := "shaSums", fn := fun _ => fun
  | [d] => { results := [.lit (.bool false)], args := [d] }
  | _ => none }
def ShaSumsWrongFalsely : Prop := shaSumsRow.holds Try.pinned (OpenSpec.ofChange shaSumsWrong)

/-- 'carlinglaw01.ShaStays': WHATEVER THE INPUT: true; the input reads as it did. -/
def shaStaysSpec : ChangeSpec := { name := "shaStays", fn := fun _ => fun
  | [d1, d2, d3] => { results := [.lit (.bool true)], args := [d1, d2, d3] }
  | _ => none }
def shaStaysRow : OpenClaim := { program := "ytjbockfjmomdjaa", sum := "78bf6537ab83629e1611a11561e6a6f7171052168d7ebca671dc9797e4d1343f", func := "carling/carlinglaw01.ShaStays", spec := "shaStays", apart := false }
def ShaStaysSaid : Prop := shaStaysRow.holds Try.pinned (OpenSpec.ofChange shaStaysSpec)

/-- ITS FALSE NEIGHBOUR: 'it returns false'. Refute it at one input. -/
def shaStaysWrong : ChangeSpec := { name := "shaStays", fn := fun _ => fun
  | [d1, d2, d3] => { results := [.lit (.bool false)], args := [d1, d2, d3] }
  | _ => none }
def ShaStaysWrongFalsely : Prop := shaStaysRow.holds Try.pinned (OpenSpec.ofChange shaStaysWrong)

/-- 'carlinglaw01.ShaTurns': WHATEVER THE INPUT: true; the input reads as it did. -/
def shaTurnsSpec : ChangeSpec := { name := "shaTurns", fn := fun _ => fun
  | [d1, d2, d3] => { results := [.lit (.bool true)], args := [d1, d2, d3] }
  | _ => none }
def shaTurnsRow : OpenClaim := { program := "ytjbockfjmomdjaa", sum := "78bf6537ab83629e1611a11561e6a6f7171052168d7ebca671dc9797e4d1343f", func := "carling/carlinglaw01.ShaTurns", spec := "shaTurns", apart := false }
def ShaTurnsSaid : Prop := shaTurnsRow.holds Try.pinned (OpenSpec.ofChange shaTurnsSpec)

/-- ITS FALSE NEIGHBOUR: 'it returns false'. Refute it at one input. -/
def shaTurnsWrong : ChangeSpec := { name := "shaTurns", fn := fun _ => fun
  | [d1, d2, d3] => { results := [.lit (.bool false)], args := [d1, d2, d3] }
  | _ => none }
def ShaTurnsWrongFalsely : Prop := shaTurnsRow.holds Try.pinned (OpenSpec.ofChange shaTurnsWrong)

/-- 'carlinglaw01.ShaConsts': WHATEVER THE INPUT: true; the input reads as it did. -/
def shaConstsSpec : ChangeSpec := { name := "shaConsts", fn := fun _ => fun
  | [d] => { results := [.lit (.bool true)], args := [d] }
  | _ => none }
def shaConstsRow : OpenClaim := { program := "ytjbockfjmomdjaa", sum := "78bf6537ab83629e1611a11561e6a6f7171052168d7ebca671dc9797e4d1343f", func := "carling/carlinglaw01.ShaConsts", spec := "shaConsts", apart := false }
def ShaConstsSaid : Prop := shaConstsRow.holds Try.pinned (OpenSpec.ofChange shaConstsSpec)

/-- ITS FALSE NEIGHBOUR: 'it returns false'. Refute it at one input. -/
def shaConstsWrong : ChangeSpec := { name := "shaConsts", fn := fun _ => fun
  | [d] => { results := [.lit (.bool false)], args := [d] }
  | _ => none }
def ShaConstsWrongFalsely : Prop := shaConstsRow.holds Try.pinned (OpenSpec.ofChange shaConstsWrong)

/-- 'carlinglaw01.ShaParts': WHATEVER THE INPUT: true; the input reads as it did. -/
def shaPartsSpec : ChangeSpec := { name := "shaParts", fn := fun _ => fun
  | [d] => { results := [.lit (.bool true)], args := [d] }
  | _ => none }
def shaPartsRow : OpenClaim := { program := "ytjbockfjmomdjaa", sum := "78bf6537ab83629e1611a11561e6a6f7171052168d7ebca671dc9797e4d1343f", func := "carling/carlinglaw01.ShaParts", spec := "shaParts", apart := false }
def ShaPartsSaid : Prop := shaPartsRow.holds Try.pinned (OpenSpec.ofChange shaPartsSpec)

/-- ITS FALSE NEIGHBOUR: 'it returns false'. Refute it at one input. -/
def shaPartsWrong : ChangeSpec := { name := "shaParts", fn := fun _ => fun
  | [d] => { results := [.lit (.bool false)], args := [d] }
  | _ => none }
def ShaPartsWrongFalsely : Prop := shaPartsRow.holds Try.pinned (OpenSpec.ofChange shaPartsWrong)

/-- 'carlinglaw02.MacSums': WHATEVER THE INPUT: true; the input reads as it did. -/
def macSumsSpec : ChangeSpec := { name := "macSums", fn := fun _ => fun
  | [d1, d2] => { results := [.lit (.bool true)], args := [d1, d2] }
  | _ => none }
def macSumsRow : OpenClaim := { program := "ytjbockfjmomdjaa", sum := "78bf6537ab83629e1611a11561e6a6f7171052168d7ebca671dc9797e4d1343f", func := "carling/carlinglaw02.MacSums", spec := "macSums", apart := false }
def MacSumsSaid : Prop := macSumsRow.holds Try.pinned (OpenSpec.ofChange macSumsSpec)

/-- ITS FALSE NEIGHBOUR: 'it returns false'. Refute it at one input. -/
def macSumsWrong : ChangeSpec := { name := "macSums", fn := fun _ => fun
  | [d1, d2] => { results := [.lit (.bool false)], args := [d1, d2] }
  | _ => none }
def MacSumsWrongFalsely : Prop := macSumsRow.holds Try.pinned (OpenSpec.ofChange macSumsWrong)

/-- 'carlinglaw02.MacEquals': WHATEVER THE INPUT: true; the input reads as it did. -/
def macEqualsSpec : ChangeSpec := { name := "macEquals", fn := fun _ => fun
  | [d1, d2] => { results := [.lit (.bool true)], args := [d1, d2] }
  | _ => none }
def macEqualsRow : OpenClaim := { program := "ytjbockfjmomdjaa", sum := "78bf6537ab83629e1611a11561e6a6f7171052168d7ebca671dc9797e4d1343f", func := "carling/carlinglaw02.MacEquals", spec := "macEquals", apart := false }
def MacEqualsSaid : Prop := macEqualsRow.holds Try.pinned (OpenSpec.ofChange macEqualsSpec)

/-- ITS FALSE NEIGHBOUR: 'it returns false'. Refute it at one input. -/
def macEqualsWrong : ChangeSpec := { name := "macEquals", fn := fun _ => fun
  | [d1, d2] => { results := [.lit (.bool false)], args := [d1, d2] }
  | _ => none }
def MacEqualsWrongFalsely : Prop := macEqualsRow.holds Try.pinned (OpenSpec.ofChange macEqualsWrong)

/-- 'carlinglaw02.MacParts': WHATEVER THE INPUT: true; the input reads as it did. -/
def macPartsSpec : ChangeSpec := { name := "macParts", fn := fun _ => fun
  | [d1, d2, d3] => { results := [.lit (.bool true)], args := [d1, d2, d3] }
  | _ => none }
def macPartsRow : OpenClaim := { program := "ytjbockfjmomdjaa", sum := "78bf6537ab83629e1611a11561e6a6f7171052168d7ebca671dc9797e4d1343f", func := "carling/carlinglaw02.MacParts", spec := "macParts", apart := false }
def MacPartsSaid : Prop := macPartsRow.holds Try.pinned (OpenSpec.ofChange macPartsSpec)

/-- ITS FALSE NEIGHBOUR: 'it returns false'. Refute it at one input. -/
def macPartsWrong : ChangeSpec := { name := "macParts", fn := fun _ => fun
  | [d1, d2, d3] => { results := [.lit (.bool false)], args := [d1, d2, d3] }
  | _ => none }
def MacPartsWrongFalsely : Prop := macPartsRow.holds Try.pinned (OpenSpec.ofChange macPartsWrong)

/-- 'carlinglaw02.MacFills': WHATEVER THE INPUT: true; the input reads as it did. -/
def macFillsSpec : ChangeSpec := { name := "macFills", fn := fun _ => fun
  | [d1, d2, d3] => { results := [.lit (.bool true)], args := [d1, d2, d3] }
  | _ => none }
def macFillsRow : OpenClaim := { program := "ytjbockfjmomdjaa", sum := "78bf6537ab83629e1611a11561e6a6f7171052168d7ebca671dc9797e4d1343f", func := "carling/carlinglaw02.MacFills", spec := "macFills", apart := false }
def MacFillsSaid : Prop := macFillsRow.holds Try.pinned (OpenSpec.ofChange macFillsSpec)

/-- ITS FALSE NEIGHBOUR: 'it returns false'. Refute it at one input. -/
def macFillsWrong : ChangeSpec := { name := "macFills", fn := fun _ => fun
  | [d1, d2, d3] => { results := [.lit (.bool false)], args := [d1, d2, d3] }
  | _ => none }
def MacFillsWrongFalsely : Prop := macFillsRow.holds Try.pinned (OpenSpec.ofChange macFillsWrong)

/- THE SECOND FORM. 'bulk': how many values and letters a reading holds, each counted each time it is reached (what is shared counts as often as it is met; a slice's spare places count too). A statement '..UptoSaid' is the law's where the arguments, and the package variables that the reading takes, are together of bulk at most 1048576: NARROWER than '..Said'. Prove '..Said' where nothing that the law and all that it calls make is longer than what came in: it says more and counts as full. Else prove '..UptoSaid'. A law counts once. -/
mutual
def uptoBulk {H : Type} : DataW H → Nat
  | .lit (.string bytes) => bytes.length + 1
  | .lit _ => 1
  | .nil => 1
  | .ptr d => uptoBulk d + 1
  | .slice elems spare => uptoBulkAll elems + uptoBulkAll spare + 1
  | .agg parts => uptoBulkAll parts + 1
  | .iface _ d => uptoBulk d + 1
  | .map entries => uptoBulkEntries entries + 1
  | .held _ => 1
def uptoBulkAll {H : Type} : List (DataW H) → Nat
  | [] => 0
  | d :: r => uptoBulk d + uptoBulkAll r
def uptoBulkEntries {H : Type} : List (Lit × DataW H) → Nat
  | [] => 0
  | x :: r => uptoBulkEntry x + uptoBulkEntries r
def uptoBulkEntry {H : Type} : Lit × DataW H → Nat
  | (.string bytes, d) => bytes.length + uptoBulk d + 1
  | (_, d) => uptoBulk d + 1
 end
def uptoSmall : (H : Type) → List (DataW H) → Bool := fun _ ds => decide (uptoBulkAll ds ≤ 1048576)
def OpenSpec.upto (s : _root_.Go.ChangeSpec) : _root_.Go.OpenSpec := { _root_.Go.OpenSpec.ofChange s with cond := some uptoSmall }

/-- 'carlinglaw01.ShaSums', WHERE WHAT IT READS IS OF BULK AT MOST 1048576: true; the input reads as it did. -/
def shaSumsUptoRow : OpenClaim := { program := "ytjbockfjmomdjaa", sum := "78bf6537ab83629e1611a11561e6a6f7171052168d7ebca671dc9797e4d1343f", func := "carling/carlinglaw01.ShaSums", spec := "shaSums", apart := false, narrowed := true }
def ShaSumsUptoSaid : Prop := shaSumsUptoRow.holds Try.pinned (OpenSpec.upto shaSumsSpec)

/-- 'carlinglaw01.ShaStays', WHERE WHAT IT READS IS OF BULK AT MOST 1048576: true; the input reads as it did. -/
def shaStaysUptoRow : OpenClaim := { program := "ytjbockfjmomdjaa", sum := "78bf6537ab83629e1611a11561e6a6f7171052168d7ebca671dc9797e4d1343f", func := "carling/carlinglaw01.ShaStays", spec := "shaStays", apart := false, narrowed := true }
def ShaStaysUptoSaid : Prop := shaStaysUptoRow.holds Try.pinned (OpenSpec.upto shaStaysSpec)

/-- 'carlinglaw01.ShaTurns', WHERE WHAT IT READS IS OF BULK AT MOST 1048576: true; the input reads as it did. -/
def shaTurnsUptoRow : OpenClaim := { program := "ytjbockfjmomdjaa", sum := "78bf6537ab83629e1611a11561e6a6f7171052168d7ebca671dc9797e4d1343f", func := "carling/carlinglaw01.ShaTurns", spec := "shaTurns", apart := false, narrowed := true }
def ShaTurnsUptoSaid : Prop := shaTurnsUptoRow.holds Try.pinned (OpenSpec.upto shaTurnsSpec)

/-- 'carlinglaw01.ShaConsts', WHERE WHAT IT READS IS OF BULK AT MOST 1048576: true; the input reads as it did. -/
def shaConstsUptoRow : OpenClaim := { program := "ytjbockfjmomdjaa", sum := "78bf6537ab83629e1611a11561e6a6f7171052168d7ebca671dc9797e4d1343f", func := "carling/carlinglaw01.ShaConsts", spec := "shaConsts", apart := false, narrowed := true }
def ShaConstsUptoSaid : Prop := shaConstsUptoRow.holds Try.pinned (OpenSpec.upto shaConstsSpec)

/-- 'carlinglaw01.ShaParts', WHERE WHAT IT READS IS OF BULK AT MOST 1048576: true; the input reads as it did. -/
def shaPartsUptoRow : OpenClaim := { program := "ytjbockfjmomdjaa", sum := "78bf6537ab83629e1611a11561e6a6f7171052168d7ebca671dc9797e4d1343f", func := "carling/carlinglaw01.ShaParts", spec := "shaParts", apart := false, narrowed := true }
def ShaPartsUptoSaid : Prop := shaPartsUptoRow.holds Try.pinned (OpenSpec.upto shaPartsSpec)

/-- 'carlinglaw02.MacSums', WHERE WHAT IT READS IS OF BULK AT MOST 1048576: true; the input reads as it did. -/
def macSumsUptoRow : OpenClaim := { program := "ytjbockfjmomdjaa", sum := "78bf6537ab83629e1611a11561e6a6f7171052168d7ebca671dc9797e4d1343f", func := "carling/carlinglaw02.MacSums", spec := "macSums", apart := false, narrowed := true }
def MacSumsUptoSaid : Prop := macSumsUptoRow.holds Try.pinned (OpenSpec.upto macSumsSpec)

/-- 'carlinglaw02.MacEquals', WHERE WHAT IT READS IS OF BULK AT MOST 1048576: true; the input reads as it did. -/
def macEqualsUptoRow : OpenClaim := { program := "ytjbockfjmomdjaa", sum := "78bf6537ab83629e1611a11561e6a6f7171052168d7ebca671dc9797e4d1343f", func := "carling/carlinglaw02.MacEquals", spec := "macEquals", apart := false, narrowed := true }
def MacEqualsUptoSaid : Prop := macEqualsUptoRow.holds Try.pinned (OpenSpec.upto macEqualsSpec)

/-- 'carlinglaw02.MacParts', WHERE WHAT IT READS IS OF BULK AT MOST 1048576: true; the input reads as it did. -/
def macPartsUptoRow : OpenClaim := { program := "ytjbockfjmomdjaa", sum := "78bf6537ab83629e1611a11561e6a6f7171052168d7ebca671dc9797e4d1343f", func := "carling/carlinglaw02.MacParts", spec := "macParts", apart := false, narrowed := true }
def MacPartsUptoSaid : Prop := macPartsUptoRow.holds Try.pinned (OpenSpec.upto macPartsSpec)

/-- 'carlinglaw02.MacFills', WHERE WHAT IT READS IS OF BULK AT MOST 1048576: true; the input reads as it did. -/
def macFillsUptoRow : OpenClaim := { program := "ytjbockfjmomdjaa", sum := "78bf6537ab83629e1611a11561e6a6f7171052168d7ebca671dc9797e4d1343f", func := "carling/carlinglaw02.MacFills", spec := "macFills", apart := false, narrowed := true }
def MacFillsUptoSaid : Prop := macFillsUptoRow.holds Try.pinned (OpenSpec.upto macFillsSpec)

end Rows
end Go.Proofs.Ytjbockfjmomdjaa
