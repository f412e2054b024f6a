/-
  No cell of these rows narrows 'for every input' (looked for: loops, veiled, ifaces, maps, wideKeys, modest, calm, conditions, laid).
  DERIVED. THE GIVEN ROWS OF THIS SEAT. 6 by the template 'for every input the law returns true; each argument reads behind the call as it read before'; 0 by the template 'total and deterministic' (their statements: YtldfnfpinemedaaTotals.lean).
  GIVEN WITH THE SEED: the statements are not yours to turn. If you find one false, say at which input.
  Laid BY PROGRAM, IN A SANDBOX (cutbox-rows.mjs): the forced cells as the released guide's own fill.sh prints them over the translation a0cd372d859c059f… (all of the seat's roots in one cut). By AI agents, Wed Nov 11 2026. No macro, syntax, notation, axiom, sorry.
-/
import Derived.Test.YtldfnfpinemedaaChecked
import GoSem.Claim
import GoSem.ClaimJoined
import GoSem.ClaimMapViews
import Derived.JoinedTies
import Derived.KernelRfl
namespace Go.Proofs.Ytldfnfpinemedaa
/- THE CELL 'sum', in the pinned program and in every row, IS THE sha256 OF THE DUMP (.gsa) THAT YtldfnfpinemedaaProg.lean LOADS. Nothing in Lean hashes anything: it is a label: what it is worth is what the hold of that sum in a sandbox is worth. -/
noncomputable def Try.pinned : Pinned := { name := "ytldfnfpinemedaa", sum := "a0cd372d859c059fe71fbce55de27f28e53aa4179bd7a455823b070a77872c41", checked := Try.checked }
namespace Rows
def none {H : Type} : Left H := { results := [], args := [] }

/-- 'carlinglaw35.LedgerPlays': WHATEVER THE INPUT: true; the input reads as it did. -/
def ledgerPlaysSpec : ChangeSpec := { name := "ledgerPlays", fn := fun _ => fun
  | [d] => { results := [.lit (.bool true)], args := [d] }
  | _ => none }
def ledgerPlaysRow : OpenClaim := { program := "ytldfnfpinemedaa", sum := "a0cd372d859c059fe71fbce55de27f28e53aa4179bd7a455823b070a77872c41", func := "carling/carlinglaw35.LedgerPlays", spec := "ledgerPlays", inPlace := ["slices.overlaps[carling/ledger.Run]"], unfollowed := true, recurses := true, plainKeys := false, apart := false }
def LedgerPlaysSaid : Prop := ledgerPlaysRow.holds Try.pinned (OpenSpec.ofChange ledgerPlaysSpec)

/-- ITS FALSE NEIGHBOUR: 'it returns false'. Refute it at one input. -/
def ledgerPlaysWrong : ChangeSpec := { name := "ledgerPlays", fn := fun _ => fun
  | [d] => { results := [.lit (.bool false)], args := [d] }
  | _ => none }
def LedgerPlaysWrongFalsely : Prop := ledgerPlaysRow.holds Try.pinned (OpenSpec.ofChange ledgerPlaysWrong)

/-- 'carlinglaw35.LedgerOrder': WHATEVER THE INPUT: true; the input reads as it did. -/
def ledgerOrderSpec : ChangeSpec := { name := "ledgerOrder", fn := fun _ => fun
  | [d] => { results := [.lit (.bool true)], args := [d] }
  | _ => none }
def ledgerOrderRow : OpenClaim := { program := "ytldfnfpinemedaa", sum := "a0cd372d859c059fe71fbce55de27f28e53aa4179bd7a455823b070a77872c41", func := "carling/carlinglaw35.LedgerOrder", spec := "ledgerOrder", inPlace := ["slices.overlaps[carling/ledger.Run]"], unfollowed := true, recurses := true, plainKeys := false, apart := false }
def LedgerOrderSaid : Prop := ledgerOrderRow.holds Try.pinned (OpenSpec.ofChange ledgerOrderSpec)

/-- ITS FALSE NEIGHBOUR: 'it returns false'. Refute it at one input. -/
def ledgerOrderWrong : ChangeSpec := { name := "ledgerOrder", fn := fun _ => fun
  | [d] => { results := [.lit (.bool false)], args := [d] }
  | _ => none }
def LedgerOrderWrongFalsely : Prop := ledgerOrderRow.holds Try.pinned (OpenSpec.ofChange ledgerOrderWrong)

/-- 'carlinglaw35.LedgerFew': WHATEVER THE INPUT: true; the input reads as it did. -/
def ledgerFewSpec : ChangeSpec := { name := "ledgerFew", fn := fun _ => fun
  | [d] => { results := [.lit (.bool true)], args := [d] }
  | _ => none }
def ledgerFewRow : OpenClaim := { program := "ytldfnfpinemedaa", sum := "a0cd372d859c059fe71fbce55de27f28e53aa4179bd7a455823b070a77872c41", func := "carling/carlinglaw35.LedgerFew", spec := "ledgerFew", inPlace := ["slices.overlaps[carling/ledger.Run]"], unfollowed := true, recurses := true, plainKeys := false, apart := false }
def LedgerFewSaid : Prop := ledgerFewRow.holds Try.pinned (OpenSpec.ofChange ledgerFewSpec)

/-- ITS FALSE NEIGHBOUR: 'it returns false'. Refute it at one input. -/
def ledgerFewWrong : ChangeSpec := { name := "ledgerFew", fn := fun _ => fun
  | [d] => { results := [.lit (.bool false)], args := [d] }
  | _ => none }
def LedgerFewWrongFalsely : Prop := ledgerFewRow.holds Try.pinned (OpenSpec.ofChange ledgerFewWrong)

/-- 'carlinglaw22.DirentUndone': WHATEVER THE INPUT: true; the input reads as it did. -/
def direntUndoneSpec : ChangeSpec := { name := "direntUndone", fn := fun _ => fun
  | [d1, d2] => { results := [.lit (.bool true)], args := [d1, d2] }
  | _ => none }
def direntUndoneRow : OpenClaim := { program := "ytldfnfpinemedaa", sum := "a0cd372d859c059fe71fbce55de27f28e53aa4179bd7a455823b070a77872c41", func := "carling/carlinglaw22.DirentUndone", spec := "direntUndone", inPlace := ["slices.overlaps[carling/dirent.Entry]"], unfollowed := true, recurses := true, plainKeys := false, apart := false }
def DirentUndoneSaid : Prop := direntUndoneRow.holds Try.pinned (OpenSpec.ofChange direntUndoneSpec)

/-- ITS FALSE NEIGHBOUR: 'it returns false'. Refute it at one input. -/
def direntUndoneWrong : ChangeSpec := { name := "direntUndone", fn := fun _ => fun
  | [d1, d2] => { results := [.lit (.bool false)], args := [d1, d2] }
  | _ => none }
def DirentUndoneWrongFalsely : Prop := direntUndoneRow.holds Try.pinned (OpenSpec.ofChange direntUndoneWrong)

/-- 'carlinglaw35.LedgerNobody': WHATEVER THE INPUT: true; the input reads as it did. -/
def ledgerNobodySpec : ChangeSpec := { name := "ledgerNobody", fn := fun _ => fun
  | [d] => { results := [.lit (.bool true)], args := [d] }
  | _ => none }
def ledgerNobodyRow : OpenClaim := { program := "ytldfnfpinemedaa", sum := "a0cd372d859c059fe71fbce55de27f28e53aa4179bd7a455823b070a77872c41", func := "carling/carlinglaw35.LedgerNobody", spec := "ledgerNobody", inPlace := ["slices.overlaps[carling/ledger.Run]"], unfollowed := true, recurses := true, plainKeys := false, apart := false }
def LedgerNobodySaid : Prop := ledgerNobodyRow.holds Try.pinned (OpenSpec.ofChange ledgerNobodySpec)

/-- ITS FALSE NEIGHBOUR: 'it returns false'. Refute it at one input. -/
def ledgerNobodyWrong : ChangeSpec := { name := "ledgerNobody", fn := fun _ => fun
  | [d] => { results := [.lit (.bool false)], args := [d] }
  | _ => none }
def LedgerNobodyWrongFalsely : Prop := ledgerNobodyRow.holds Try.pinned (OpenSpec.ofChange ledgerNobodyWrong)

/-- 'carlinglaw35.LedgerAsks': WHATEVER THE INPUT: true; the input reads as it did. -/
def ledgerAsksSpec : ChangeSpec := { name := "ledgerAsks", fn := fun _ => fun
  | [d1, d2] => { results := [.lit (.bool true)], args := [d1, d2] }
  | _ => none }
def ledgerAsksRow : OpenClaim := { program := "ytldfnfpinemedaa", sum := "a0cd372d859c059fe71fbce55de27f28e53aa4179bd7a455823b070a77872c41", func := "carling/carlinglaw35.LedgerAsks", spec := "ledgerAsks", inPlace := ["slices.overlaps[carling/ledger.Run]"], unfollowed := true, recurses := true, plainKeys := false, apart := false }
def LedgerAsksSaid : Prop := ledgerAsksRow.holds Try.pinned (OpenSpec.ofChange ledgerAsksSpec)

/-- ITS FALSE NEIGHBOUR: 'it returns false'. Refute it at one input. -/
def ledgerAsksWrong : ChangeSpec := { name := "ledgerAsks", fn := fun _ => fun
  | [d1, d2] => { results := [.lit (.bool false)], args := [d1, d2] }
  | _ => none }
def LedgerAsksWrongFalsely : Prop := ledgerAsksRow.holds Try.pinned (OpenSpec.ofChange ledgerAsksWrong)

/- THE SECOND FORM. 'bulk': how many values and letters a reading holds, each counted each time it is reached (what is shared counts as often as it is met; a slice's spare places count too). A statement '..UptoSaid' is the law's where the arguments, and the package variables that the reading takes, are together of bulk at most 1048576: NARROWER than '..Said'. Prove '..Said' where nothing that the law and all that it calls make is longer than what came in: it says more and counts as full. Else prove '..UptoSaid'. A law counts once. -/
mutual
def uptoBulk {H : Type} : DataW H → Nat
  | .lit (.string bytes) => bytes.length + 1
  | .lit _ => 1
  | .nil => 1
  | .ptr d => uptoBulk d + 1
  | .slice elems spare => uptoBulkAll elems + uptoBulkAll spare + 1
  | .agg parts => uptoBulkAll parts + 1
  | .iface _ d => uptoBulk d + 1
  | .map entries => uptoBulkEntries entries + 1
  | .held _ => 1
def uptoBulkAll {H : Type} : List (DataW H) → Nat
  | [] => 0
  | d :: r => uptoBulk d + uptoBulkAll r
def uptoBulkEntries {H : Type} : List (Lit × DataW H) → Nat
  | [] => 0
  | x :: r => uptoBulkEntry x + uptoBulkEntries r
def uptoBulkEntry {H : Type} : Lit × DataW H → Nat
  | (.string bytes, d) => bytes.length + uptoBulk d + 1
  | (_, d) => uptoBulk d + 1
 end
def uptoSmall : (H : Type) → List (DataW H) → Bool := fun _ ds => decide (uptoBulkAll ds ≤ 1048576)
def OpenSpec.upto (s : _root_.Go.ChangeSpec) : _root_.Go.OpenSpec := { _root_.Go.OpenSpec.ofChange s with cond := some uptoSmall }

/-- 'carlinglaw35.LedgerPlays', WHERE WHAT IT READS IS OF BULK AT MOST 1048576: true; the input reads as it did. -/
def ledgerPlaysUptoRow : OpenClaim := { program := "ytldfnfpinemedaa", sum := "a0cd372d859c059fe71fbce55de27f28e53aa4179bd7a455823b070a77872c41", func := "carling/carlinglaw35.LedgerPlays", spec := "ledgerPlays", inPlace := ["slices.overlaps[carling/ledger.Run]"], unfollowed := true, recurses := true, plainKeys := false, apart := false, narrowed := true }
def LedgerPlaysUptoSaid : Prop := ledgerPlaysUptoRow.holds Try.pinned (OpenSpec.upto ledgerPlaysSpec)

/-- 'carlinglaw35.LedgerOrder', WHERE WHAT IT READS IS OF BULK AT MOST 1048576: true; the input reads as it did. -/
def ledgerOrderUptoRow : OpenClaim := { program := "ytldfnfpinemedaa", sum := "a0cd372d859c059fe71fbce55de27f28e53aa4179bd7a455823b070a77872c41", func := "carling/carlinglaw35.LedgerOrder", spec := "ledgerOrder", inPlace := ["slices.overlaps[carling/ledger.Run]"], unfollowed := true, recurses := true, plainKeys := false, apart := false, narrowed := true }
def LedgerOrderUptoSaid : Prop := ledgerOrderUptoRow.holds Try.pinned (OpenSpec.upto ledgerOrderSpec)

/-- 'carlinglaw35.LedgerFew', WHERE WHAT IT READS IS OF BULK AT MOST 1048576: true; the input reads as it did. -/
def ledgerFewUptoRow : OpenClaim := { program := "ytldfnfpinemedaa", sum := "a0cd372d859c059fe71fbce55de27f28e53aa4179bd7a455823b070a77872c41", func := "carling/carlinglaw35.LedgerFew", spec := "ledgerFew", inPlace := ["slices.overlaps[carling/ledger.Run]"], unfollowed := true, recurses := true, plainKeys := false, apart := false, narrowed := true }
def LedgerFewUptoSaid : Prop := ledgerFewUptoRow.holds Try.pinned (OpenSpec.upto ledgerFewSpec)

/-- 'carlinglaw22.DirentUndone', WHERE WHAT IT READS IS OF BULK AT MOST 1048576: true; the input reads as it did. -/
def direntUndoneUptoRow : OpenClaim := { program := "ytldfnfpinemedaa", sum := "a0cd372d859c059fe71fbce55de27f28e53aa4179bd7a455823b070a77872c41", func := "carling/carlinglaw22.DirentUndone", spec := "direntUndone", inPlace := ["slices.overlaps[carling/dirent.Entry]"], unfollowed := true, recurses := true, plainKeys := false, apart := false, narrowed := true }
def DirentUndoneUptoSaid : Prop := direntUndoneUptoRow.holds Try.pinned (OpenSpec.upto direntUndoneSpec)

/-- 'carlinglaw35.LedgerNobody', WHERE WHAT IT READS IS OF BULK AT MOST 1048576: true; the input reads as it did. -/
def ledgerNobodyUptoRow : OpenClaim := { program := "ytldfnfpinemedaa", sum := "a0cd372d859c059fe71fbce55de27f28e53aa4179bd7a455823b070a77872c41", func := "carling/carlinglaw35.LedgerNobody", spec := "ledgerNobody", inPlace := ["slices.overlaps[carling/ledger.Run]"], unfollowed := true, recurses := true, plainKeys := false, apart := false, narrowed := true }
def LedgerNobodyUptoSaid : Prop := ledgerNobodyUptoRow.holds Try.pinned (OpenSpec.upto ledgerNobodySpec)

/-- 'carlinglaw35.LedgerAsks', WHERE WHAT IT READS IS OF BULK AT MOST 1048576: true; the input reads as it did. -/
def ledgerAsksUptoRow : OpenClaim := { program := "ytldfnfpinemedaa", sum := "a0cd372d859c059fe71fbce55de27f28e53aa4179bd7a455823b070a77872c41", func := "carling/carlinglaw35.LedgerAsks", spec := "ledgerAsks", inPlace := ["slices.overlaps[carling/ledger.Run]"], unfollowed := true, recurses := true, plainKeys := false, apart := false, narrowed := true }
def LedgerAsksUptoSaid : Prop := ledgerAsksUptoRow.holds Try.pinned (OpenSpec.upto ledgerAsksSpec)

end Rows
end Go.Proofs.Ytldfnfpinemedaa
