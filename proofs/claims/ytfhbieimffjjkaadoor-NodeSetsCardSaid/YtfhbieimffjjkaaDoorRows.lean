/-
  NARROWER THAN 'FOR EVERY INPUT', by the rows' own cells (each row's printed sentence says how): PackReads: laid · PackOnce: laid · PackPuts: laid · PackBack: laid · AnchorLays: laid · AnchorParses: laid · AnchorBack: laid · NodeLays: laid · NodeBack: laid · NodeParses: laid · NodeSets: laid · AnchorRegisters: laid.
  DERIVED. THE GIVEN ROWS OF THIS SEAT. 12 by the template 'for every input the law returns true; each argument reads behind the call as it read before'; 0 by the template 'total and deterministic' (their statements: YtfhbieimffjjkaaDoorTotals.lean).
  GIVEN WITH THE SEED: the statements are not yours to turn. If you find one false, say at which input.
  Laid BY PROGRAM, IN A SANDBOX (cutbox-rows.mjs): the forced cells as the released guide's own fill.sh prints them over the translation 59134e5a57f7d338… (all of the seat's roots in one cut). By AI agents, Wed Nov 11 2026. No macro, syntax, notation, axiom, sorry.
-/
import Derived.Test.YtfhbieimffjjkaaDoorChecked
import GoSem.PinnedTables
import GoSem.Claim
import GoSem.ClaimJoined
import GoSem.ClaimMapViews
import Derived.JoinedTies
import Derived.KernelRfl
namespace Go.Proofs.YtfhbieimffjjkaaDoor
/- THE CELL 'sum', in the pinned program and in every row, IS THE sha256 OF THE DUMP (.gsa) THAT YtfhbieimffjjkaaDoorProg.lean LOADS. Nothing in Lean hashes anything: it is a label: what it is worth is what the hold of that sum in a sandbox is worth. -/
noncomputable def Tryd.pinned : Pinned := { name := "ytfhbieimffjjkaadoor", sum := "59134e5a57f7d33837553788cfd693027395c08dc588542b68a0a91ae4a8d27c", checked := Tryd.checked }
namespace Rows
def none {H : Type} : Left H := { results := [], args := [] }

/- WHAT THE LISTED PACKAGE-LEVEL VARIABLES READ AS WHEN THE CALL BEGINS. Each datum BY PROGRAM (the guide's laid-datum.mjs) off the statement by which the dump's own 'gosem.cut.vars' lays the variable. In a bare row this is a premise. The card (YtfhbieimffjjkaaDoorCards.lean) ties it to the program's text. -/
def laid_unicode_utf8_acceptRanges {H : Type} : DataW H := .agg [.agg [.lit (.int .u8 128), .lit (.int .u8 191)], .agg [.lit (.int .u8 160), .lit (.int .u8 191)], .agg [.lit (.int .u8 128), .lit (.int .u8 159)], .agg [.lit (.int .u8 144), .lit (.int .u8 191)], .agg [.lit (.int .u8 128), .lit (.int .u8 143)], .agg [.lit (.int .u8 0), .lit (.int .u8 0)], .agg [.lit (.int .u8 0), .lit (.int .u8 0)], .agg [.lit (.int .u8 0), .lit (.int .u8 0)], .agg [.lit (.int .u8 0), .lit (.int .u8 0)], .agg [.lit (.int .u8 0), .lit (.int .u8 0)], .agg [.lit (.int .u8 0), .lit (.int .u8 0)], .agg [.lit (.int .u8 0), .lit (.int .u8 0)], .agg [.lit (.int .u8 0), .lit (.int .u8 0)], .agg [.lit (.int .u8 0), .lit (.int .u8 0)], .agg [.lit (.int .u8 0), .lit (.int .u8 0)], .agg [.lit (.int .u8 0), .lit (.int .u8 0)]]
/-- One of Go's own tables, pinned by name: the form's constant. -/
def laid_unicode_utf8_first : DataW Unit := Go.Pinned.utf8First

/-- 'carlinglaw05.PackReads': WHATEVER THE INPUT: true; the input reads as it did. -/
def packReadsSpec : ChangeSpec := { name := "packReads", fn := fun _ => fun
  | [d1, d2] => { results := [.lit (.bool true)], args := [d1, d2] }
  | _ => none }
def packReadsRow : OpenClaim := { program := "ytfhbieimffjjkaadoor", sum := "59134e5a57f7d33837553788cfd693027395c08dc588542b68a0a91ae4a8d27c", func := "carling/carlinglaw05.PackReads", spec := "packReads", named := ["unicode/utf8.first", "unicode/utf8.acceptRanges"], apart := false, laid := [("unicode/utf8.acceptRanges", laid_unicode_utf8_acceptRanges), ("unicode/utf8.first", laid_unicode_utf8_first)] }
def PackReadsSaid : Prop := packReadsRow.holds Tryd.pinned (OpenSpec.ofChange packReadsSpec)

/-- ITS FALSE NEIGHBOUR: 'it returns false'. Refute it at one input. -/
def packReadsWrong : ChangeSpec := { name := "packReads", fn := fun _ => fun
  | [d1, d2] => { results := [.lit (.bool false)], args := [d1, d2] }
  | _ => none }
def PackReadsWrongFalsely : Prop := packReadsRow.holds Tryd.pinned (OpenSpec.ofChange packReadsWrong)

/-- 'carlinglaw05.PackOnce': WHATEVER THE INPUT: true; the input reads as it did. -/
def packOnceSpec : ChangeSpec := { name := "packOnce", fn := fun _ => fun
  | [d1, d2] => { results := [.lit (.bool true)], args := [d1, d2] }
  | _ => none }
def packOnceRow : OpenClaim := { program := "ytfhbieimffjjkaadoor", sum := "59134e5a57f7d33837553788cfd693027395c08dc588542b68a0a91ae4a8d27c", func := "carling/carlinglaw05.PackOnce", spec := "packOnce", named := ["unicode/utf8.first", "unicode/utf8.acceptRanges"], apart := false, laid := [("unicode/utf8.acceptRanges", laid_unicode_utf8_acceptRanges), ("unicode/utf8.first", laid_unicode_utf8_first)] }
def PackOnceSaid : Prop := packOnceRow.holds Tryd.pinned (OpenSpec.ofChange packOnceSpec)

/-- ITS FALSE NEIGHBOUR: 'it returns false'. Refute it at one input. -/
def packOnceWrong : ChangeSpec := { name := "packOnce", fn := fun _ => fun
  | [d1, d2] => { results := [.lit (.bool false)], args := [d1, d2] }
  | _ => none }
def PackOnceWrongFalsely : Prop := packOnceRow.holds Tryd.pinned (OpenSpec.ofChange packOnceWrong)

/-- 'carlinglaw05.PackPuts': WHATEVER THE INPUT: true; the input reads as it did. -/
def packPutsSpec : ChangeSpec := { name := "packPuts", fn := fun _ => fun
  | [d1, d2, d3] => { results := [.lit (.bool true)], args := [d1, d2, d3] }
  | _ => none }
def packPutsRow : OpenClaim := { program := "ytfhbieimffjjkaadoor", sum := "59134e5a57f7d33837553788cfd693027395c08dc588542b68a0a91ae4a8d27c", func := "carling/carlinglaw05.PackPuts", spec := "packPuts", named := ["unicode/utf8.first", "unicode/utf8.acceptRanges"], apart := false, laid := [("unicode/utf8.acceptRanges", laid_unicode_utf8_acceptRanges), ("unicode/utf8.first", laid_unicode_utf8_first)] }
def PackPutsSaid : Prop := packPutsRow.holds Tryd.pinned (OpenSpec.ofChange packPutsSpec)

/-- ITS FALSE NEIGHBOUR: 'it returns false'. Refute it at one input. -/
def packPutsWrong : ChangeSpec := { name := "packPuts", fn := fun _ => fun
  | [d1, d2, d3] => { results := [.lit (.bool false)], args := [d1, d2, d3] }
  | _ => none }
def PackPutsWrongFalsely : Prop := packPutsRow.holds Tryd.pinned (OpenSpec.ofChange packPutsWrong)

/-- 'carlinglaw05.PackBack': WHATEVER THE INPUT: true; the input reads as it did. -/
def packBackSpec : ChangeSpec := { name := "packBack", fn := fun _ => fun
  | [d1, d2, d3] => { results := [.lit (.bool true)], args := [d1, d2, d3] }
  | _ => none }
def packBackRow : OpenClaim := { program := "ytfhbieimffjjkaadoor", sum := "59134e5a57f7d33837553788cfd693027395c08dc588542b68a0a91ae4a8d27c", func := "carling/carlinglaw05.PackBack", spec := "packBack", named := ["unicode/utf8.first", "unicode/utf8.acceptRanges"], apart := false, laid := [("unicode/utf8.acceptRanges", laid_unicode_utf8_acceptRanges), ("unicode/utf8.first", laid_unicode_utf8_first)] }
def PackBackSaid : Prop := packBackRow.holds Tryd.pinned (OpenSpec.ofChange packBackSpec)

/-- ITS FALSE NEIGHBOUR: 'it returns false'. Refute it at one input. -/
def packBackWrong : ChangeSpec := { name := "packBack", fn := fun _ => fun
  | [d1, d2, d3] => { results := [.lit (.bool false)], args := [d1, d2, d3] }
  | _ => none }
def PackBackWrongFalsely : Prop := packBackRow.holds Tryd.pinned (OpenSpec.ofChange packBackWrong)

/-- 'carlinglaw07.AnchorLays': WHATEVER THE INPUT: true; the input reads as it did. -/
def anchorLaysSpec : ChangeSpec := { name := "anchorLays", fn := fun _ => fun
  | [d] => { results := [.lit (.bool true)], args := [d] }
  | _ => none }
def anchorLaysRow : OpenClaim := { program := "ytfhbieimffjjkaadoor", sum := "59134e5a57f7d33837553788cfd693027395c08dc588542b68a0a91ae4a8d27c", func := "carling/carlinglaw07.AnchorLays", spec := "anchorLays", unfollowed := true, recurses := true, named := ["unicode/utf8.first", "unicode/utf8.acceptRanges"], apart := false, laid := [("unicode/utf8.acceptRanges", laid_unicode_utf8_acceptRanges), ("unicode/utf8.first", laid_unicode_utf8_first)] }
def AnchorLaysSaid : Prop := anchorLaysRow.holds Tryd.pinned (OpenSpec.ofChange anchorLaysSpec)

/-- ITS FALSE NEIGHBOUR: 'it returns false'. Refute it at one input. -/
def anchorLaysWrong : ChangeSpec := { name := "anchorLays", fn := fun _ => fun
  | [d] => { results := [.lit (.bool false)], args := [d] }
  | _ => none }
def AnchorLaysWrongFalsely : Prop := anchorLaysRow.holds Tryd.pinned (OpenSpec.ofChange anchorLaysWrong)

/-- 'carlinglaw07.AnchorParses': WHATEVER THE INPUT: true; the input reads as it did. -/
def anchorParsesSpec : ChangeSpec := { name := "anchorParses", fn := fun _ => fun
  | [d] => { results := [.lit (.bool true)], args := [d] }
  | _ => none }
def anchorParsesRow : OpenClaim := { program := "ytfhbieimffjjkaadoor", sum := "59134e5a57f7d33837553788cfd693027395c08dc588542b68a0a91ae4a8d27c", func := "carling/carlinglaw07.AnchorParses", spec := "anchorParses", unfollowed := true, recurses := true, named := ["unicode/utf8.first", "unicode/utf8.acceptRanges"], apart := false, laid := [("unicode/utf8.acceptRanges", laid_unicode_utf8_acceptRanges), ("unicode/utf8.first", laid_unicode_utf8_first)] }
def AnchorParsesSaid : Prop := anchorParsesRow.holds Tryd.pinned (OpenSpec.ofChange anchorParsesSpec)

/-- ITS FALSE NEIGHBOUR: 'it returns false'. Refute it at one input. -/
def anchorParsesWrong : ChangeSpec := { name := "anchorParses", fn := fun _ => fun
  | [d] => { results := [.lit (.bool false)], args := [d] }
  | _ => none }
def AnchorParsesWrongFalsely : Prop := anchorParsesRow.holds Tryd.pinned (OpenSpec.ofChange anchorParsesWrong)

/-- 'carlinglaw07.AnchorBack': WHATEVER THE INPUT: true; the input reads as it did. -/
def anchorBackSpec : ChangeSpec := { name := "anchorBack", fn := fun _ => fun
  | [d1, d2] => { results := [.lit (.bool true)], args := [d1, d2] }
  | _ => none }
def anchorBackRow : OpenClaim := { program := "ytfhbieimffjjkaadoor", sum := "59134e5a57f7d33837553788cfd693027395c08dc588542b68a0a91ae4a8d27c", func := "carling/carlinglaw07.AnchorBack", spec := "anchorBack", unfollowed := true, recurses := true, named := ["unicode/utf8.first", "unicode/utf8.acceptRanges"], apart := false, laid := [("unicode/utf8.acceptRanges", laid_unicode_utf8_acceptRanges), ("unicode/utf8.first", laid_unicode_utf8_first)] }
def AnchorBackSaid : Prop := anchorBackRow.holds Tryd.pinned (OpenSpec.ofChange anchorBackSpec)

/-- ITS FALSE NEIGHBOUR: 'it returns false'. Refute it at one input. -/
def anchorBackWrong : ChangeSpec := { name := "anchorBack", fn := fun _ => fun
  | [d1, d2] => { results := [.lit (.bool false)], args := [d1, d2] }
  | _ => none }
def AnchorBackWrongFalsely : Prop := anchorBackRow.holds Tryd.pinned (OpenSpec.ofChange anchorBackWrong)

/-- 'carlinglaw13.NodeLays': WHATEVER THE INPUT: true; the input reads as it did. -/
def nodeLaysSpec : ChangeSpec := { name := "nodeLays", fn := fun _ => fun
  | [d] => { results := [.lit (.bool true)], args := [d] }
  | _ => none }
def nodeLaysRow : OpenClaim := { program := "ytfhbieimffjjkaadoor", sum := "59134e5a57f7d33837553788cfd693027395c08dc588542b68a0a91ae4a8d27c", func := "carling/carlinglaw13.NodeLays", spec := "nodeLays", named := ["unicode/utf8.first", "unicode/utf8.acceptRanges"], apart := false, laid := [("unicode/utf8.acceptRanges", laid_unicode_utf8_acceptRanges), ("unicode/utf8.first", laid_unicode_utf8_first)] }
def NodeLaysSaid : Prop := nodeLaysRow.holds Tryd.pinned (OpenSpec.ofChange nodeLaysSpec)

/-- ITS FALSE NEIGHBOUR: 'it returns false'. Refute it at one input. -/
def nodeLaysWrong : ChangeSpec := { name := "nodeLays", fn := fun _ => fun
  | [d] => { results := [.lit (.bool false)], args := [d] }
  | _ => none }
def NodeLaysWrongFalsely : Prop := nodeLaysRow.holds Tryd.pinned (OpenSpec.ofChange nodeLaysWrong)

/-- 'carlinglaw13.NodeBack': WHATEVER THE INPUT: true; the input reads as it did. -/
def nodeBackSpec : ChangeSpec := { name := "nodeBack", fn := fun _ => fun
  | [d1, d2, d3] => { results := [.lit (.bool true)], args := [d1, d2, d3] }
  | _ => none }
def nodeBackRow : OpenClaim := { program := "ytfhbieimffjjkaadoor", sum := "59134e5a57f7d33837553788cfd693027395c08dc588542b68a0a91ae4a8d27c", func := "carling/carlinglaw13.NodeBack", spec := "nodeBack", named := ["unicode/utf8.first", "unicode/utf8.acceptRanges"], apart := false, laid := [("unicode/utf8.acceptRanges", laid_unicode_utf8_acceptRanges), ("unicode/utf8.first", laid_unicode_utf8_first)] }
def NodeBackSaid : Prop := nodeBackRow.holds Tryd.pinned (OpenSpec.ofChange nodeBackSpec)

/-- ITS FALSE NEIGHBOUR: 'it returns false'. Refute it at one input. -/
def nodeBackWrong : ChangeSpec := { name := "nodeBack", fn := fun _ => fun
  | [d1, d2, d3] => { results := [.lit (.bool false)], args := [d1, d2, d3] }
  | _ => none }
def NodeBackWrongFalsely : Prop := nodeBackRow.holds Tryd.pinned (OpenSpec.ofChange nodeBackWrong)

/-- 'carlinglaw13.NodeParses': WHATEVER THE INPUT: true; the input reads as it did. -/
def nodeParsesSpec : ChangeSpec := { name := "nodeParses", fn := fun _ => fun
  | [d1, d2, d3] => { results := [.lit (.bool true)], args := [d1, d2, d3] }
  | _ => none }
def nodeParsesRow : OpenClaim := { program := "ytfhbieimffjjkaadoor", sum := "59134e5a57f7d33837553788cfd693027395c08dc588542b68a0a91ae4a8d27c", func := "carling/carlinglaw13.NodeParses", spec := "nodeParses", named := ["unicode/utf8.first", "unicode/utf8.acceptRanges"], apart := false, laid := [("unicode/utf8.acceptRanges", laid_unicode_utf8_acceptRanges), ("unicode/utf8.first", laid_unicode_utf8_first)] }
def NodeParsesSaid : Prop := nodeParsesRow.holds Tryd.pinned (OpenSpec.ofChange nodeParsesSpec)

/-- ITS FALSE NEIGHBOUR: 'it returns false'. Refute it at one input. -/
def nodeParsesWrong : ChangeSpec := { name := "nodeParses", fn := fun _ => fun
  | [d1, d2, d3] => { results := [.lit (.bool false)], args := [d1, d2, d3] }
  | _ => none }
def NodeParsesWrongFalsely : Prop := nodeParsesRow.holds Tryd.pinned (OpenSpec.ofChange nodeParsesWrong)

/-- 'carlinglaw13.NodeSets': WHATEVER THE INPUT: true; the input reads as it did. -/
def nodeSetsSpec : ChangeSpec := { name := "nodeSets", fn := fun _ => fun
  | [d1, d2, d3] => { results := [.lit (.bool true)], args := [d1, d2, d3] }
  | _ => none }
def nodeSetsRow : OpenClaim := { program := "ytfhbieimffjjkaadoor", sum := "59134e5a57f7d33837553788cfd693027395c08dc588542b68a0a91ae4a8d27c", func := "carling/carlinglaw13.NodeSets", spec := "nodeSets", named := ["unicode/utf8.first", "unicode/utf8.acceptRanges"], apart := false, laid := [("unicode/utf8.acceptRanges", laid_unicode_utf8_acceptRanges), ("unicode/utf8.first", laid_unicode_utf8_first)] }
def NodeSetsSaid : Prop := nodeSetsRow.holds Tryd.pinned (OpenSpec.ofChange nodeSetsSpec)

/-- ITS FALSE NEIGHBOUR: 'it returns false'. Refute it at one input. -/
def nodeSetsWrong : ChangeSpec := { name := "nodeSets", fn := fun _ => fun
  | [d1, d2, d3] => { results := [.lit (.bool false)], args := [d1, d2, d3] }
  | _ => none }
def NodeSetsWrongFalsely : Prop := nodeSetsRow.holds Tryd.pinned (OpenSpec.ofChange nodeSetsWrong)

/-- 'carlinglaw07.AnchorRegisters': WHATEVER THE INPUT: true; the input reads as it did. -/
def anchorRegistersSpec : ChangeSpec := { name := "anchorRegisters", fn := fun _ => fun
  | [d] => { results := [.lit (.bool true)], args := [d] }
  | _ => none }
def anchorRegistersRow : OpenClaim := { program := "ytfhbieimffjjkaadoor", sum := "59134e5a57f7d33837553788cfd693027395c08dc588542b68a0a91ae4a8d27c", func := "carling/carlinglaw07.AnchorRegisters", spec := "anchorRegisters", unfollowed := true, recurses := true, named := ["unicode/utf8.first", "unicode/utf8.acceptRanges"], apart := false, laid := [("unicode/utf8.acceptRanges", laid_unicode_utf8_acceptRanges), ("unicode/utf8.first", laid_unicode_utf8_first)] }
def AnchorRegistersSaid : Prop := anchorRegistersRow.holds Tryd.pinned (OpenSpec.ofChange anchorRegistersSpec)

/-- ITS FALSE NEIGHBOUR: 'it returns false'. Refute it at one input. -/
def anchorRegistersWrong : ChangeSpec := { name := "anchorRegisters", fn := fun _ => fun
  | [d] => { results := [.lit (.bool false)], args := [d] }
  | _ => none }
def AnchorRegistersWrongFalsely : Prop := anchorRegistersRow.holds Tryd.pinned (OpenSpec.ofChange anchorRegistersWrong)

/- THE SECOND FORM. 'bulk': how many values and letters a reading holds, each counted each time it is reached (what is shared counts as often as it is met; a slice's spare places count too). A statement '..UptoSaid' is the law's where the arguments, and the package variables that the reading takes, are together of bulk at most 1048576: NARROWER than '..Said'. Prove '..Said' where nothing that the law and all that it calls make is longer than what came in: it says more and counts as full. Else prove '..UptoSaid'. A law counts once. -/
mutual
def uptoBulk {H : Type} : DataW H → Nat
  | .lit (.string bytes) => bytes.length + 1
  | .lit _ => 1
  | .nil => 1
  | .ptr d => uptoBulk d + 1
  | .slice elems spare => uptoBulkAll elems + uptoBulkAll spare + 1
  | .agg parts => uptoBulkAll parts + 1
  | .iface _ d => uptoBulk d + 1
  | .map entries => uptoBulkEntries entries + 1
  | .held _ => 1
def uptoBulkAll {H : Type} : List (DataW H) → Nat
  | [] => 0
  | d :: r => uptoBulk d + uptoBulkAll r
def uptoBulkEntries {H : Type} : List (Lit × DataW H) → Nat
  | [] => 0
  | x :: r => uptoBulkEntry x + uptoBulkEntries r
def uptoBulkEntry {H : Type} : Lit × DataW H → Nat
  | (.string bytes, d) => bytes.length + uptoBulk d + 1
  | (_, d) => uptoBulk d + 1
 end
def uptoSmall : (H : Type) → List (DataW H) → Bool := fun _ ds => decide (uptoBulkAll ds ≤ 1048576)
def OpenSpec.upto (s : _root_.Go.ChangeSpec) : _root_.Go.OpenSpec := { _root_.Go.OpenSpec.ofChange s with cond := some uptoSmall }

/-- 'carlinglaw05.PackReads', WHERE WHAT IT READS IS OF BULK AT MOST 1048576: true; the input reads as it did. -/
def packReadsUptoRow : OpenClaim := { program := "ytfhbieimffjjkaadoor", sum := "59134e5a57f7d33837553788cfd693027395c08dc588542b68a0a91ae4a8d27c", func := "carling/carlinglaw05.PackReads", spec := "packReads", named := ["unicode/utf8.first", "unicode/utf8.acceptRanges"], apart := false, laid := [("unicode/utf8.acceptRanges", laid_unicode_utf8_acceptRanges), ("unicode/utf8.first", laid_unicode_utf8_first)], narrowed := true }
def PackReadsUptoSaid : Prop := packReadsUptoRow.holds Tryd.pinned (OpenSpec.upto packReadsSpec)

/-- 'carlinglaw05.PackOnce', WHERE WHAT IT READS IS OF BULK AT MOST 1048576: true; the input reads as it did. -/
def packOnceUptoRow : OpenClaim := { program := "ytfhbieimffjjkaadoor", sum := "59134e5a57f7d33837553788cfd693027395c08dc588542b68a0a91ae4a8d27c", func := "carling/carlinglaw05.PackOnce", spec := "packOnce", named := ["unicode/utf8.first", "unicode/utf8.acceptRanges"], apart := false, laid := [("unicode/utf8.acceptRanges", laid_unicode_utf8_acceptRanges), ("unicode/utf8.first", laid_unicode_utf8_first)], narrowed := true }
def PackOnceUptoSaid : Prop := packOnceUptoRow.holds Tryd.pinned (OpenSpec.upto packOnceSpec)

/-- 'carlinglaw05.PackPuts', WHERE WHAT IT READS IS OF BULK AT MOST 1048576: true; the input reads as it did. -/
def packPutsUptoRow : OpenClaim := { program := "ytfhbieimffjjkaadoor", sum := "59134e5a57f7d33837553788cfd693027395c08dc588542b68a0a91ae4a8d27c", func := "carling/carlinglaw05.PackPuts", spec := "packPuts", named := ["unicode/utf8.first", "unicode/utf8.acceptRanges"], apart := false, laid := [("unicode/utf8.acceptRanges", laid_unicode_utf8_acceptRanges), ("unicode/utf8.first", laid_unicode_utf8_first)], narrowed := true }
def PackPutsUptoSaid : Prop := packPutsUptoRow.holds Tryd.pinned (OpenSpec.upto packPutsSpec)

/-- 'carlinglaw05.PackBack', WHERE WHAT IT READS IS OF BULK AT MOST 1048576: true; the input reads as it did. -/
def packBackUptoRow : OpenClaim := { program := "ytfhbieimffjjkaadoor", sum := "59134e5a57f7d33837553788cfd693027395c08dc588542b68a0a91ae4a8d27c", func := "carling/carlinglaw05.PackBack", spec := "packBack", named := ["unicode/utf8.first", "unicode/utf8.acceptRanges"], apart := false, laid := [("unicode/utf8.acceptRanges", laid_unicode_utf8_acceptRanges), ("unicode/utf8.first", laid_unicode_utf8_first)], narrowed := true }
def PackBackUptoSaid : Prop := packBackUptoRow.holds Tryd.pinned (OpenSpec.upto packBackSpec)

/-- 'carlinglaw07.AnchorLays', WHERE WHAT IT READS IS OF BULK AT MOST 1048576: true; the input reads as it did. -/
def anchorLaysUptoRow : OpenClaim := { program := "ytfhbieimffjjkaadoor", sum := "59134e5a57f7d33837553788cfd693027395c08dc588542b68a0a91ae4a8d27c", func := "carling/carlinglaw07.AnchorLays", spec := "anchorLays", unfollowed := true, recurses := true, named := ["unicode/utf8.first", "unicode/utf8.acceptRanges"], apart := false, laid := [("unicode/utf8.acceptRanges", laid_unicode_utf8_acceptRanges), ("unicode/utf8.first", laid_unicode_utf8_first)], narrowed := true }
def AnchorLaysUptoSaid : Prop := anchorLaysUptoRow.holds Tryd.pinned (OpenSpec.upto anchorLaysSpec)

/-- 'carlinglaw07.AnchorParses', WHERE WHAT IT READS IS OF BULK AT MOST 1048576: true; the input reads as it did. -/
def anchorParsesUptoRow : OpenClaim := { program := "ytfhbieimffjjkaadoor", sum := "59134e5a57f7d33837553788cfd693027395c08dc588542b68a0a91ae4a8d27c", func := "carling/carlinglaw07.AnchorParses", spec := "anchorParses", unfollowed := true, recurses := true, named := ["unicode/utf8.first", "unicode/utf8.acceptRanges"], apart := false, laid := [("unicode/utf8.acceptRanges", laid_unicode_utf8_acceptRanges), ("unicode/utf8.first", laid_unicode_utf8_first)], narrowed := true }
def AnchorParsesUptoSaid : Prop := anchorParsesUptoRow.holds Tryd.pinned (OpenSpec.upto anchorParsesSpec)

/-- 'carlinglaw07.AnchorBack', WHERE WHAT IT READS IS OF BULK AT MOST 1048576: true; the input reads as it did. -/
def anchorBackUptoRow : OpenClaim := { program := "ytfhbieimffjjkaadoor", sum := "59134e5a57f7d33837553788cfd693027395c08dc588542b68a0a91ae4a8d27c", func := "carling/carlinglaw07.AnchorBack", spec := "anchorBack", unfollowed := true, recurses := true, named := ["unicode/utf8.first", "unicode/utf8.acceptRanges"], apart := false, laid := [("unicode/utf8.acceptRanges", laid_unicode_utf8_acceptRanges), ("unicode/utf8.first", laid_unicode_utf8_first)], narrowed := true }
def AnchorBackUptoSaid : Prop := anchorBackUptoRow.holds Tryd.pinned (OpenSpec.upto anchorBackSpec)

/-- 'carlinglaw13.NodeLays', WHERE WHAT IT READS IS OF BULK AT MOST 1048576: true; the input reads as it did. -/
def nodeLaysUptoRow : OpenClaim := { program := "ytfhbieimffjjkaadoor", sum := "59134e5a57f7d33837553788cfd693027395c08dc588542b68a0a91ae4a8d27c", func := "carling/carlinglaw13.NodeLays", spec := "nodeLays", named := ["unicode/utf8.first", "unicode/utf8.acceptRanges"], apart := false, laid := [("unicode/utf8.acceptRanges", laid_unicode_utf8_acceptRanges), ("unicode/utf8.first", laid_unicode_utf8_first)], narrowed := true }
def NodeLaysUptoSaid : Prop := nodeLaysUptoRow.holds Tryd.pinned (OpenSpec.upto nodeLaysSpec)

/-- 'carlinglaw13.NodeBack', WHERE WHAT IT READS IS OF BULK AT MOST 1048576: true; the input reads as it did. -/
def nodeBackUptoRow : OpenClaim := { program := "ytfhbieimffjjkaadoor", sum := "59134e5a57f7d33837553788cfd693027395c08dc588542b68a0a91ae4a8d27c", func := "carling/carlinglaw13.NodeBack", spec := "nodeBack", named := ["unicode/utf8.first", "unicode/utf8.acceptRanges"], apart := false, laid := [("unicode/utf8.acceptRanges", laid_unicode_utf8_acceptRanges), ("unicode/utf8.first", laid_unicode_utf8_first)], narrowed := true }
def NodeBackUptoSaid : Prop := nodeBackUptoRow.holds Tryd.pinned (OpenSpec.upto nodeBackSpec)

/-- 'carlinglaw13.NodeParses', WHERE WHAT IT READS IS OF BULK AT MOST 1048576: true; the input reads as it did. -/
def nodeParsesUptoRow : OpenClaim := { program := "ytfhbieimffjjkaadoor", sum := "59134e5a57f7d33837553788cfd693027395c08dc588542b68a0a91ae4a8d27c", func := "carling/carlinglaw13.NodeParses", spec := "nodeParses", named := ["unicode/utf8.first", "unicode/utf8.acceptRanges"], apart := false, laid := [("unicode/utf8.acceptRanges", laid_unicode_utf8_acceptRanges), ("unicode/utf8.first", laid_unicode_utf8_first)], narrowed := true }
def NodeParsesUptoSaid : Prop := nodeParsesUptoRow.holds Tryd.pinned (OpenSpec.upto nodeParsesSpec)

/-- 'carlinglaw13.NodeSets', WHERE WHAT IT READS IS OF BULK AT MOST 1048576: true; the input reads as it did. -/
def nodeSetsUptoRow : OpenClaim := { program := "ytfhbieimffjjkaadoor", sum := "59134e5a57f7d33837553788cfd693027395c08dc588542b68a0a91ae4a8d27c", func := "carling/carlinglaw13.NodeSets", spec := "nodeSets", named := ["unicode/utf8.first", "unicode/utf8.acceptRanges"], apart := false, laid := [("unicode/utf8.acceptRanges", laid_unicode_utf8_acceptRanges), ("unicode/utf8.first", laid_unicode_utf8_first)], narrowed := true }
def NodeSetsUptoSaid : Prop := nodeSetsUptoRow.holds Tryd.pinned (OpenSpec.upto nodeSetsSpec)

/-- 'carlinglaw07.AnchorRegisters', WHERE WHAT IT READS IS OF BULK AT MOST 1048576: true; the input reads as it did. -/
def anchorRegistersUptoRow : OpenClaim := { program := "ytfhbieimffjjkaadoor", sum := "59134e5a57f7d33837553788cfd693027395c08dc588542b68a0a91ae4a8d27c", func := "carling/carlinglaw07.AnchorRegisters", spec := "anchorRegisters", unfollowed := true, recurses := true, named := ["unicode/utf8.first", "unicode/utf8.acceptRanges"], apart := false, laid := [("unicode/utf8.acceptRanges", laid_unicode_utf8_acceptRanges), ("unicode/utf8.first", laid_unicode_utf8_first)], narrowed := true }
def AnchorRegistersUptoSaid : Prop := anchorRegistersUptoRow.holds Tryd.pinned (OpenSpec.upto anchorRegistersSpec)

end Rows
end Go.Proofs.YtfhbieimffjjkaaDoor
