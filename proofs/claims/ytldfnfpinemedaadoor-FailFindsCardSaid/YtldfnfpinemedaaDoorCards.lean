/-
  DERIVED. GIVEN WITH THE SEED: THE CARDS: each row of YtldfnfpinemedaaDoorRows.lean that lists a variable, with what it lists TIED to the program's text (the seventh form; the later family's looks); each row that meets fmt, with fmt's text TOLD by the authors' own Lean function (tested against real Go, not proved from fmt's source: count such statements apart). THE CARD IS WHAT COUNTS. Prove the row's statement (the work); the ties are given (YtldfnfpinemedaaDoorTie.lean); close each card by the builder's one call (the guide's Derived/Test/ToyasCard.lean, 'card_holds'). Laid BY PROGRAM, IN A SANDBOX (cutbox-door.mjs). By AI agents, Wed Nov 11 2026. No macro, syntax, notation, axiom, sorry.
-/
import Derived.Test.YtldfnfpinemedaaDoorRows
import GoSem.ClaimSeven
namespace Go.Proofs.YtldfnfpinemedaaDoor
namespace Rows

/-- THE TIED CARD OF 'carlinglaw25.FailFinds'. -/
def failFindsCard : Claim7 := { stood := { row := failFindsRow, standIns := [], harness := (true, "c58ccc5d792debec6aca5219c0a287b14f55fea901136fe8355b7ad6ed5aa55c"), looks := true }, kinds := [], alts := [], laidByText := true, laidKinds := [.data, .data, .data, .handle], laidTests := true, laidLooks := .later }
def FailFindsCardSaid : Prop := Claim7.holds Tryd.pinned (.plain (OpenSpec.ofChange failFindsSpec)) failFindsCard

/-- THE TIED CARD OF 'carlinglaw25.FailNone'. -/
def failNoneCard : Claim7 := { stood := { row := failNoneRow, standIns := [], harness := (true, "c58ccc5d792debec6aca5219c0a287b14f55fea901136fe8355b7ad6ed5aa55c"), looks := true }, kinds := [], alts := [], laidByText := true, laidKinds := [.data, .data, .data, .handle], laidTests := true, laidLooks := .later }
def FailNoneCardSaid : Prop := Claim7.holds Tryd.pinned (.plain (OpenSpec.ofChange failNoneSpec)) failNoneCard

/-- THE TIED CARD OF 'carlinglaw25.FailOthers'. -/
def failOthersCard : Claim7 := { stood := { row := failOthersRow, standIns := [], harness := (true, "c58ccc5d792debec6aca5219c0a287b14f55fea901136fe8355b7ad6ed5aa55c"), looks := true }, kinds := [], alts := [], laidByText := true, laidKinds := [.data, .data, .data, .handle], laidTests := true, laidLooks := .later }
def FailOthersCardSaid : Prop := Claim7.holds Tryd.pinned (.plain (OpenSpec.ofChange failOthersSpec)) failOthersCard

/-- THE TIED CARD OF 'carlinglaw25.FailWraps'. -/
def failWrapsCard : Claim7 := { stood := { row := failWrapsRow, standIns := [], harness := (true, "c58ccc5d792debec6aca5219c0a287b14f55fea901136fe8355b7ad6ed5aa55c"), looks := true }, kinds := [], alts := [], laidByText := true, laidKinds := [.data, .data, .data, .handle], laidTests := true, laidLooks := .later }
def FailWrapsCardSaid : Prop := Claim7.holds Tryd.pinned (.plain (OpenSpec.ofChange failWrapsSpec)) failWrapsCard

/-- THE TIED CARD OF 'carlinglaw22.DirentLays'. -/
def direntLaysCard : Claim7 := { stood := { row := direntLaysRow, standIns := [], harness := (true, "c58ccc5d792debec6aca5219c0a287b14f55fea901136fe8355b7ad6ed5aa55c"), looks := true }, kinds := [], alts := [], laidByText := true, laidKinds := [.data, .pinned], laidTests := true, laidLooks := .later }
def DirentLaysCardSaid : Prop := Claim7.holds Tryd.pinned (.plain (OpenSpec.ofChange direntLaysSpec)) direntLaysCard

/-- THE TIED CARD OF 'carlinglaw22.DirentBack'. -/
def direntBackCard : Claim7 := { stood := { row := direntBackRow, standIns := [], harness := (true, "c58ccc5d792debec6aca5219c0a287b14f55fea901136fe8355b7ad6ed5aa55c"), looks := true }, kinds := [], alts := [], laidByText := true, laidKinds := [.data, .pinned], laidTests := true, laidLooks := .later }
def DirentBackCardSaid : Prop := Claim7.holds Tryd.pinned (.plain (OpenSpec.ofChange direntBackSpec)) direntBackCard

/-- THE SECOND FORM's CARD OF 'carlinglaw25.FailFinds'. -/
def failFindsUptoCard : Claim7 := { stood := { row := failFindsUptoRow, standIns := [], harness := (true, "c58ccc5d792debec6aca5219c0a287b14f55fea901136fe8355b7ad6ed5aa55c"), looks := true }, kinds := [], alts := [], laidByText := true, laidKinds := [.data, .data, .data, .handle], laidTests := true, laidLooks := .later }
def FailFindsUptoCardSaid : Prop := Claim7.holds Tryd.pinned (.plain (OpenSpec.upto failFindsSpec)) failFindsUptoCard

/-- THE SECOND FORM's CARD OF 'carlinglaw25.FailNone'. -/
def failNoneUptoCard : Claim7 := { stood := { row := failNoneUptoRow, standIns := [], harness := (true, "c58ccc5d792debec6aca5219c0a287b14f55fea901136fe8355b7ad6ed5aa55c"), looks := true }, kinds := [], alts := [], laidByText := true, laidKinds := [.data, .data, .data, .handle], laidTests := true, laidLooks := .later }
def FailNoneUptoCardSaid : Prop := Claim7.holds Tryd.pinned (.plain (OpenSpec.upto failNoneSpec)) failNoneUptoCard

/-- THE SECOND FORM's CARD OF 'carlinglaw25.FailOthers'. -/
def failOthersUptoCard : Claim7 := { stood := { row := failOthersUptoRow, standIns := [], harness := (true, "c58ccc5d792debec6aca5219c0a287b14f55fea901136fe8355b7ad6ed5aa55c"), looks := true }, kinds := [], alts := [], laidByText := true, laidKinds := [.data, .data, .data, .handle], laidTests := true, laidLooks := .later }
def FailOthersUptoCardSaid : Prop := Claim7.holds Tryd.pinned (.plain (OpenSpec.upto failOthersSpec)) failOthersUptoCard

/-- THE SECOND FORM's CARD OF 'carlinglaw25.FailWraps'. -/
def failWrapsUptoCard : Claim7 := { stood := { row := failWrapsUptoRow, standIns := [], harness := (true, "c58ccc5d792debec6aca5219c0a287b14f55fea901136fe8355b7ad6ed5aa55c"), looks := true }, kinds := [], alts := [], laidByText := true, laidKinds := [.data, .data, .data, .handle], laidTests := true, laidLooks := .later }
def FailWrapsUptoCardSaid : Prop := Claim7.holds Tryd.pinned (.plain (OpenSpec.upto failWrapsSpec)) failWrapsUptoCard

/-- THE SECOND FORM's CARD OF 'carlinglaw22.DirentLays'. -/
def direntLaysUptoCard : Claim7 := { stood := { row := direntLaysUptoRow, standIns := [], harness := (true, "c58ccc5d792debec6aca5219c0a287b14f55fea901136fe8355b7ad6ed5aa55c"), looks := true }, kinds := [], alts := [], laidByText := true, laidKinds := [.data, .pinned], laidTests := true, laidLooks := .later }
def DirentLaysUptoCardSaid : Prop := Claim7.holds Tryd.pinned (.plain (OpenSpec.upto direntLaysSpec)) direntLaysUptoCard

/-- THE SECOND FORM's CARD OF 'carlinglaw22.DirentBack'. -/
def direntBackUptoCard : Claim7 := { stood := { row := direntBackUptoRow, standIns := [], harness := (true, "c58ccc5d792debec6aca5219c0a287b14f55fea901136fe8355b7ad6ed5aa55c"), looks := true }, kinds := [], alts := [], laidByText := true, laidKinds := [.data, .pinned], laidTests := true, laidLooks := .later }
def DirentBackUptoCardSaid : Prop := Claim7.holds Tryd.pinned (.plain (OpenSpec.upto direntBackSpec)) direntBackUptoCard
end Rows
end Go.Proofs.YtldfnfpinemedaaDoor
