/-
  DERIVED. GIVEN WITH THE SEED: THE CARDS: each row of YtfhbieimffjjkaaDoorRows.lean that lists a variable, with what it lists TIED to the program's text (the seventh form; the later family's looks); each row that meets fmt, with fmt's text TOLD by the authors' own Lean function (tested against real Go, not proved from fmt's source: count such statements apart). THE CARD IS WHAT COUNTS. Prove the row's statement (the work); the ties are given (YtfhbieimffjjkaaDoorTie.lean); close each card by the builder's one call (the guide's Derived/Test/ToyasCard.lean, 'card_holds'). Laid BY PROGRAM, IN A SANDBOX (cutbox-door.mjs). By AI agents, Wed Nov 11 2026. No macro, syntax, notation, axiom, sorry.
-/
import Derived.Test.YtfhbieimffjjkaaDoorRows
import GoSem.ClaimSeven
namespace Go.Proofs.YtfhbieimffjjkaaDoor
namespace Rows

/-- THE TIED CARD OF 'carlinglaw05.PackReads'. -/
def packReadsCard : Claim7 := { stood := { row := packReadsRow, standIns := [], harness := (true, "eecf13d2a2d2ed8031201a28ceab88ce535cd2cd9b85f4297354fc4fe56c3224"), looks := false }, kinds := [], alts := [], laidByText := true, laidKinds := [.data, .pinned], laidTests := true, laidLooks := .later }
def PackReadsCardSaid : Prop := Claim7.holds Tryd.pinned (.plain (OpenSpec.ofChange packReadsSpec)) packReadsCard

/-- THE TIED CARD OF 'carlinglaw05.PackOnce'. -/
def packOnceCard : Claim7 := { stood := { row := packOnceRow, standIns := [], harness := (true, "eecf13d2a2d2ed8031201a28ceab88ce535cd2cd9b85f4297354fc4fe56c3224"), looks := false }, kinds := [], alts := [], laidByText := true, laidKinds := [.data, .pinned], laidTests := true, laidLooks := .later }
def PackOnceCardSaid : Prop := Claim7.holds Tryd.pinned (.plain (OpenSpec.ofChange packOnceSpec)) packOnceCard

/-- THE TIED CARD OF 'carlinglaw05.PackPuts'. -/
def packPutsCard : Claim7 := { stood := { row := packPutsRow, standIns := [], harness := (true, "eecf13d2a2d2ed8031201a28ceab88ce535cd2cd9b85f4297354fc4fe56c3224"), looks := false }, kinds := [], alts := [], laidByText := true, laidKinds := [.data, .pinned], laidTests := true, laidLooks := .later }
def PackPutsCardSaid : Prop := Claim7.holds Tryd.pinned (.plain (OpenSpec.ofChange packPutsSpec)) packPutsCard

/-- THE TIED CARD OF 'carlinglaw05.PackBack'. -/
def packBackCard : Claim7 := { stood := { row := packBackRow, standIns := [], harness := (true, "eecf13d2a2d2ed8031201a28ceab88ce535cd2cd9b85f4297354fc4fe56c3224"), looks := false }, kinds := [], alts := [], laidByText := true, laidKinds := [.data, .pinned], laidTests := true, laidLooks := .later }
def PackBackCardSaid : Prop := Claim7.holds Tryd.pinned (.plain (OpenSpec.ofChange packBackSpec)) packBackCard

/-- THE TIED CARD OF 'carlinglaw07.AnchorLays'. -/
def anchorLaysCard : Claim7 := { stood := { row := anchorLaysRow, standIns := [], harness := (true, "eecf13d2a2d2ed8031201a28ceab88ce535cd2cd9b85f4297354fc4fe56c3224"), looks := false }, kinds := [], alts := [], laidByText := true, laidKinds := [.data, .pinned], laidTests := true, laidLooks := .later }
def AnchorLaysCardSaid : Prop := Claim7.holds Tryd.pinned (.plain (OpenSpec.ofChange anchorLaysSpec)) anchorLaysCard

/-- THE TIED CARD OF 'carlinglaw07.AnchorParses'. -/
def anchorParsesCard : Claim7 := { stood := { row := anchorParsesRow, standIns := [], harness := (true, "eecf13d2a2d2ed8031201a28ceab88ce535cd2cd9b85f4297354fc4fe56c3224"), looks := false }, kinds := [], alts := [], laidByText := true, laidKinds := [.data, .pinned], laidTests := true, laidLooks := .later }
def AnchorParsesCardSaid : Prop := Claim7.holds Tryd.pinned (.plain (OpenSpec.ofChange anchorParsesSpec)) anchorParsesCard

/-- THE TIED CARD OF 'carlinglaw07.AnchorBack'. -/
def anchorBackCard : Claim7 := { stood := { row := anchorBackRow, standIns := [], harness := (true, "eecf13d2a2d2ed8031201a28ceab88ce535cd2cd9b85f4297354fc4fe56c3224"), looks := false }, kinds := [], alts := [], laidByText := true, laidKinds := [.data, .pinned], laidTests := true, laidLooks := .later }
def AnchorBackCardSaid : Prop := Claim7.holds Tryd.pinned (.plain (OpenSpec.ofChange anchorBackSpec)) anchorBackCard

/-- THE TIED CARD OF 'carlinglaw13.NodeLays'. -/
def nodeLaysCard : Claim7 := { stood := { row := nodeLaysRow, standIns := [], harness := (true, "eecf13d2a2d2ed8031201a28ceab88ce535cd2cd9b85f4297354fc4fe56c3224"), looks := false }, kinds := [], alts := [], laidByText := true, laidKinds := [.data, .pinned], laidTests := true, laidLooks := .later }
def NodeLaysCardSaid : Prop := Claim7.holds Tryd.pinned (.plain (OpenSpec.ofChange nodeLaysSpec)) nodeLaysCard

/-- THE TIED CARD OF 'carlinglaw13.NodeBack'. -/
def nodeBackCard : Claim7 := { stood := { row := nodeBackRow, standIns := [], harness := (true, "eecf13d2a2d2ed8031201a28ceab88ce535cd2cd9b85f4297354fc4fe56c3224"), looks := false }, kinds := [], alts := [], laidByText := true, laidKinds := [.data, .pinned], laidTests := true, laidLooks := .later }
def NodeBackCardSaid : Prop := Claim7.holds Tryd.pinned (.plain (OpenSpec.ofChange nodeBackSpec)) nodeBackCard

/-- THE TIED CARD OF 'carlinglaw13.NodeParses'. -/
def nodeParsesCard : Claim7 := { stood := { row := nodeParsesRow, standIns := [], harness := (true, "eecf13d2a2d2ed8031201a28ceab88ce535cd2cd9b85f4297354fc4fe56c3224"), looks := false }, kinds := [], alts := [], laidByText := true, laidKinds := [.data, .pinned], laidTests := true, laidLooks := .later }
def NodeParsesCardSaid : Prop := Claim7.holds Tryd.pinned (.plain (OpenSpec.ofChange nodeParsesSpec)) nodeParsesCard

/-- THE TIED CARD OF 'carlinglaw13.NodeSets'. -/
def nodeSetsCard : Claim7 := { stood := { row := nodeSetsRow, standIns := [], harness := (true, "eecf13d2a2d2ed8031201a28ceab88ce535cd2cd9b85f4297354fc4fe56c3224"), looks := false }, kinds := [], alts := [], laidByText := true, laidKinds := [.data, .pinned], laidTests := true, laidLooks := .later }
def NodeSetsCardSaid : Prop := Claim7.holds Tryd.pinned (.plain (OpenSpec.ofChange nodeSetsSpec)) nodeSetsCard

/-- THE TIED CARD OF 'carlinglaw07.AnchorRegisters'. -/
def anchorRegistersCard : Claim7 := { stood := { row := anchorRegistersRow, standIns := [], harness := (true, "eecf13d2a2d2ed8031201a28ceab88ce535cd2cd9b85f4297354fc4fe56c3224"), looks := false }, kinds := [], alts := [], laidByText := true, laidKinds := [.data, .pinned], laidTests := true, laidLooks := .later }
def AnchorRegistersCardSaid : Prop := Claim7.holds Tryd.pinned (.plain (OpenSpec.ofChange anchorRegistersSpec)) anchorRegistersCard

/-- THE SECOND FORM's CARD OF 'carlinglaw05.PackReads'. -/
def packReadsUptoCard : Claim7 := { stood := { row := packReadsUptoRow, standIns := [], harness := (true, "eecf13d2a2d2ed8031201a28ceab88ce535cd2cd9b85f4297354fc4fe56c3224"), looks := false }, kinds := [], alts := [], laidByText := true, laidKinds := [.data, .pinned], laidTests := true, laidLooks := .later }
def PackReadsUptoCardSaid : Prop := Claim7.holds Tryd.pinned (.plain (OpenSpec.upto packReadsSpec)) packReadsUptoCard

/-- THE SECOND FORM's CARD OF 'carlinglaw05.PackOnce'. -/
def packOnceUptoCard : Claim7 := { stood := { row := packOnceUptoRow, standIns := [], harness := (true, "eecf13d2a2d2ed8031201a28ceab88ce535cd2cd9b85f4297354fc4fe56c3224"), looks := false }, kinds := [], alts := [], laidByText := true, laidKinds := [.data, .pinned], laidTests := true, laidLooks := .later }
def PackOnceUptoCardSaid : Prop := Claim7.holds Tryd.pinned (.plain (OpenSpec.upto packOnceSpec)) packOnceUptoCard

/-- THE SECOND FORM's CARD OF 'carlinglaw05.PackPuts'. -/
def packPutsUptoCard : Claim7 := { stood := { row := packPutsUptoRow, standIns := [], harness := (true, "eecf13d2a2d2ed8031201a28ceab88ce535cd2cd9b85f4297354fc4fe56c3224"), looks := false }, kinds := [], alts := [], laidByText := true, laidKinds := [.data, .pinned], laidTests := true, laidLooks := .later }
def PackPutsUptoCardSaid : Prop := Claim7.holds Tryd.pinned (.plain (OpenSpec.upto packPutsSpec)) packPutsUptoCard

/-- THE SECOND FORM's CARD OF 'carlinglaw05.PackBack'. -/
def packBackUptoCard : Claim7 := { stood := { row := packBackUptoRow, standIns := [], harness := (true, "eecf13d2a2d2ed8031201a28ceab88ce535cd2cd9b85f4297354fc4fe56c3224"), looks := false }, kinds := [], alts := [], laidByText := true, laidKinds := [.data, .pinned], laidTests := true, laidLooks := .later }
def PackBackUptoCardSaid : Prop := Claim7.holds Tryd.pinned (.plain (OpenSpec.upto packBackSpec)) packBackUptoCard

/-- THE SECOND FORM's CARD OF 'carlinglaw07.AnchorLays'. -/
def anchorLaysUptoCard : Claim7 := { stood := { row := anchorLaysUptoRow, standIns := [], harness := (true, "eecf13d2a2d2ed8031201a28ceab88ce535cd2cd9b85f4297354fc4fe56c3224"), looks := false }, kinds := [], alts := [], laidByText := true, laidKinds := [.data, .pinned], laidTests := true, laidLooks := .later }
def AnchorLaysUptoCardSaid : Prop := Claim7.holds Tryd.pinned (.plain (OpenSpec.upto anchorLaysSpec)) anchorLaysUptoCard

/-- THE SECOND FORM's CARD OF 'carlinglaw07.AnchorParses'. -/
def anchorParsesUptoCard : Claim7 := { stood := { row := anchorParsesUptoRow, standIns := [], harness := (true, "eecf13d2a2d2ed8031201a28ceab88ce535cd2cd9b85f4297354fc4fe56c3224"), looks := false }, kinds := [], alts := [], laidByText := true, laidKinds := [.data, .pinned], laidTests := true, laidLooks := .later }
def AnchorParsesUptoCardSaid : Prop := Claim7.holds Tryd.pinned (.plain (OpenSpec.upto anchorParsesSpec)) anchorParsesUptoCard

/-- THE SECOND FORM's CARD OF 'carlinglaw07.AnchorBack'. -/
def anchorBackUptoCard : Claim7 := { stood := { row := anchorBackUptoRow, standIns := [], harness := (true, "eecf13d2a2d2ed8031201a28ceab88ce535cd2cd9b85f4297354fc4fe56c3224"), looks := false }, kinds := [], alts := [], laidByText := true, laidKinds := [.data, .pinned], laidTests := true, laidLooks := .later }
def AnchorBackUptoCardSaid : Prop := Claim7.holds Tryd.pinned (.plain (OpenSpec.upto anchorBackSpec)) anchorBackUptoCard

/-- THE SECOND FORM's CARD OF 'carlinglaw13.NodeLays'. -/
def nodeLaysUptoCard : Claim7 := { stood := { row := nodeLaysUptoRow, standIns := [], harness := (true, "eecf13d2a2d2ed8031201a28ceab88ce535cd2cd9b85f4297354fc4fe56c3224"), looks := false }, kinds := [], alts := [], laidByText := true, laidKinds := [.data, .pinned], laidTests := true, laidLooks := .later }
def NodeLaysUptoCardSaid : Prop := Claim7.holds Tryd.pinned (.plain (OpenSpec.upto nodeLaysSpec)) nodeLaysUptoCard

/-- THE SECOND FORM's CARD OF 'carlinglaw13.NodeBack'. -/
def nodeBackUptoCard : Claim7 := { stood := { row := nodeBackUptoRow, standIns := [], harness := (true, "eecf13d2a2d2ed8031201a28ceab88ce535cd2cd9b85f4297354fc4fe56c3224"), looks := false }, kinds := [], alts := [], laidByText := true, laidKinds := [.data, .pinned], laidTests := true, laidLooks := .later }
def NodeBackUptoCardSaid : Prop := Claim7.holds Tryd.pinned (.plain (OpenSpec.upto nodeBackSpec)) nodeBackUptoCard

/-- THE SECOND FORM's CARD OF 'carlinglaw13.NodeParses'. -/
def nodeParsesUptoCard : Claim7 := { stood := { row := nodeParsesUptoRow, standIns := [], harness := (true, "eecf13d2a2d2ed8031201a28ceab88ce535cd2cd9b85f4297354fc4fe56c3224"), looks := false }, kinds := [], alts := [], laidByText := true, laidKinds := [.data, .pinned], laidTests := true, laidLooks := .later }
def NodeParsesUptoCardSaid : Prop := Claim7.holds Tryd.pinned (.plain (OpenSpec.upto nodeParsesSpec)) nodeParsesUptoCard

/-- THE SECOND FORM's CARD OF 'carlinglaw13.NodeSets'. -/
def nodeSetsUptoCard : Claim7 := { stood := { row := nodeSetsUptoRow, standIns := [], harness := (true, "eecf13d2a2d2ed8031201a28ceab88ce535cd2cd9b85f4297354fc4fe56c3224"), looks := false }, kinds := [], alts := [], laidByText := true, laidKinds := [.data, .pinned], laidTests := true, laidLooks := .later }
def NodeSetsUptoCardSaid : Prop := Claim7.holds Tryd.pinned (.plain (OpenSpec.upto nodeSetsSpec)) nodeSetsUptoCard

/-- THE SECOND FORM's CARD OF 'carlinglaw07.AnchorRegisters'. -/
def anchorRegistersUptoCard : Claim7 := { stood := { row := anchorRegistersUptoRow, standIns := [], harness := (true, "eecf13d2a2d2ed8031201a28ceab88ce535cd2cd9b85f4297354fc4fe56c3224"), looks := false }, kinds := [], alts := [], laidByText := true, laidKinds := [.data, .pinned], laidTests := true, laidLooks := .later }
def AnchorRegistersUptoCardSaid : Prop := Claim7.holds Tryd.pinned (.plain (OpenSpec.upto anchorRegistersSpec)) anchorRegistersUptoCard
end Rows
end Go.Proofs.YtfhbieimffjjkaaDoor
