/-
  DERIVED. GIVEN WITH THE SEED: THE CARDS: each row of YtfdpmffcdafmgaaDoorRows.lean that lists a variable, with what it lists TIED to the program's text (the seventh form; the later family's looks); each row that meets fmt, with fmt's text TOLD by the authors' own Lean function (tested against real Go, not proved from fmt's source: count such statements apart). THE CARD IS WHAT COUNTS. Prove the row's statement (the work); the ties are given (YtfdpmffcdafmgaaDoorTie.lean); close each card by the builder's one call (the guide's Derived/Test/ToyasCard.lean, 'card_holds'). Laid BY PROGRAM, IN A SANDBOX (cutbox-door.mjs). By AI agents, Wed Nov 11 2026. No macro, syntax, notation, axiom, sorry.
-/
import Derived.Test.YtfdpmffcdafmgaaDoorRows
import GoSem.ClaimSeven
namespace Go.Proofs.YtfdpmffcdafmgaaDoor
namespace Rows

/-- THE TIED CARD OF 'carlinglaw23.AttrLays'. -/
def attrLaysCard : Claim7 := { stood := { row := attrLaysRow, standIns := [], harness := (true, "be0925803c26185b48c87e8b554aea9ea04b0015cebbc55074b34feb0f38d38a"), looks := false }, kinds := [], alts := [], laidByText := true, laidKinds := [.data, .pinned], laidTests := true, laidLooks := .later }
def AttrLaysCardSaid : Prop := Claim7.holds Tryd.pinned (.plain (OpenSpec.ofChange attrLaysSpec)) attrLaysCard

/-- THE TIED CARD OF 'carlinglaw23.AttrBack'. -/
def attrBackCard : Claim7 := { stood := { row := attrBackRow, standIns := [], harness := (true, "be0925803c26185b48c87e8b554aea9ea04b0015cebbc55074b34feb0f38d38a"), looks := false }, kinds := [], alts := [], laidByText := true, laidKinds := [.data, .pinned], laidTests := true, laidLooks := .later }
def AttrBackCardSaid : Prop := Claim7.holds Tryd.pinned (.plain (OpenSpec.ofChange attrBackSpec)) attrBackCard

/-- THE TIED CARD OF 'carlinglaw23.AttrTurns'. -/
def attrTurnsCard : Claim7 := { stood := { row := attrTurnsRow, standIns := [], harness := (true, "be0925803c26185b48c87e8b554aea9ea04b0015cebbc55074b34feb0f38d38a"), looks := false }, kinds := [], alts := [], laidByText := true, laidKinds := [.data, .pinned], laidTests := true, laidLooks := .later }
def AttrTurnsCardSaid : Prop := Claim7.holds Tryd.pinned (.plain (OpenSpec.ofChange attrTurnsSpec)) attrTurnsCard

/-- THE TIED CARD OF 'carlinglaw23.AttrSets'. -/
def attrSetsCard : Claim7 := { stood := { row := attrSetsRow, standIns := [], harness := (true, "be0925803c26185b48c87e8b554aea9ea04b0015cebbc55074b34feb0f38d38a"), looks := false }, kinds := [], alts := [], laidByText := true, laidKinds := [.data, .pinned], laidTests := true, laidLooks := .later }
def AttrSetsCardSaid : Prop := Claim7.holds Tryd.pinned (.plain (OpenSpec.ofChange attrSetsSpec)) attrSetsCard

/-- THE SECOND FORM's CARD OF 'carlinglaw23.AttrLays'. -/
def attrLaysUptoCard : Claim7 := { stood := { row := attrLaysUptoRow, standIns := [], harness := (true, "be0925803c26185b48c87e8b554aea9ea04b0015cebbc55074b34feb0f38d38a"), looks := false }, kinds := [], alts := [], laidByText := true, laidKinds := [.data, .pinned], laidTests := true, laidLooks := .later }
def AttrLaysUptoCardSaid : Prop := Claim7.holds Tryd.pinned (.plain (OpenSpec.upto attrLaysSpec)) attrLaysUptoCard

/-- THE SECOND FORM's CARD OF 'carlinglaw23.AttrBack'. -/
def attrBackUptoCard : Claim7 := { stood := { row := attrBackUptoRow, standIns := [], harness := (true, "be0925803c26185b48c87e8b554aea9ea04b0015cebbc55074b34feb0f38d38a"), looks := false }, kinds := [], alts := [], laidByText := true, laidKinds := [.data, .pinned], laidTests := true, laidLooks := .later }
def AttrBackUptoCardSaid : Prop := Claim7.holds Tryd.pinned (.plain (OpenSpec.upto attrBackSpec)) attrBackUptoCard

/-- THE SECOND FORM's CARD OF 'carlinglaw23.AttrTurns'. -/
def attrTurnsUptoCard : Claim7 := { stood := { row := attrTurnsUptoRow, standIns := [], harness := (true, "be0925803c26185b48c87e8b554aea9ea04b0015cebbc55074b34feb0f38d38a"), looks := false }, kinds := [], alts := [], laidByText := true, laidKinds := [.data, .pinned], laidTests := true, laidLooks := .later }
def AttrTurnsUptoCardSaid : Prop := Claim7.holds Tryd.pinned (.plain (OpenSpec.upto attrTurnsSpec)) attrTurnsUptoCard

/-- THE SECOND FORM's CARD OF 'carlinglaw23.AttrSets'. -/
def attrSetsUptoCard : Claim7 := { stood := { row := attrSetsUptoRow, standIns := [], harness := (true, "be0925803c26185b48c87e8b554aea9ea04b0015cebbc55074b34feb0f38d38a"), looks := false }, kinds := [], alts := [], laidByText := true, laidKinds := [.data, .pinned], laidTests := true, laidLooks := .later }
def AttrSetsUptoCardSaid : Prop := Claim7.holds Tryd.pinned (.plain (OpenSpec.upto attrSetsSpec)) attrSetsUptoCard
end Rows
end Go.Proofs.YtfdpmffcdafmgaaDoor
