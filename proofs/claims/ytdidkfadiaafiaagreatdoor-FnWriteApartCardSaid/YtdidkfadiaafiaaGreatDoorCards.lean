/-
  DERIVED. GIVEN WITH THE SEED: THE CARDS: each row of YtdidkfadiaafiaaGreatDoorRows.lean that lists a variable, with what it lists TIED to the program's text (the seventh form; the later family's looks); each row that meets fmt, with fmt's text TOLD by the authors' own Lean function (tested against real Go, not proved from fmt's source: count such statements apart). THE CARD IS WHAT COUNTS. Prove the row's statement (the work); the ties are given (YtdidkfadiaafiaaGreatDoorTie.lean); close each card by the builder's one call (the guide's Derived/Test/ToyasCard.lean, 'card_holds'). Laid BY PROGRAM, IN A SANDBOX (cutbox-door.mjs). By AI agents, Wed Nov 11 2026. No macro, syntax, notation, axiom, sorry.
-/
import Derived.Test.YtdidkfadiaafiaaGreatDoorRows
import GoSem.ClaimSeven
namespace Go.Proofs.YtdidkfadiaafiaaGreatDoor
namespace Rows

/-- THE TIED CARD OF 'laws.FnExactTreeWrite'. -/
def fnExactTreeWriteCard : Claim7 := { stood := { row := fnExactTreeWriteRow, standIns := [], harness := (true, "aa4be021c9bc03faa9ec1e3d6ea161c4b40185b8468e7a9672307c7f20d8bd41"), looks := false }, kinds := [], alts := [], laidByText := true, laidKinds := [.data, .pinned], laidTests := true, laidLooks := .later }
def FnExactTreeWriteCardSaid : Prop := Claim7.holds Tryz.pinned (.plain (OpenSpec.ofChange fnExactTreeWriteSpec)) fnExactTreeWriteCard

/-- THE TIED CARD OF 'laws.FnExactTreeMerge'. -/
def fnExactTreeMergeCard : Claim7 := { stood := { row := fnExactTreeMergeRow, standIns := [], harness := (true, "aa4be021c9bc03faa9ec1e3d6ea161c4b40185b8468e7a9672307c7f20d8bd41"), looks := false }, kinds := [], alts := [], laidByText := true, laidKinds := [.data, .pinned], laidTests := true, laidLooks := .later }
def FnExactTreeMergeCardSaid : Prop := Claim7.holds Tryz.pinned (.plain (OpenSpec.ofChange fnExactTreeMergeSpec)) fnExactTreeMergeCard

/-- THE TIED CARD OF 'laws.FnWriteMerge'. -/
def fnWriteMergeCard : Claim7 := { stood := { row := fnWriteMergeRow, standIns := [], harness := (true, "aa4be021c9bc03faa9ec1e3d6ea161c4b40185b8468e7a9672307c7f20d8bd41"), looks := false }, kinds := [], alts := [], laidByText := true, laidKinds := [.data, .pinned], laidTests := true, laidLooks := .later }
def FnWriteMergeCardSaid : Prop := Claim7.holds Tryz.pinned (.plain (OpenSpec.ofChange fnWriteMergeSpec)) fnWriteMergeCard

/-- THE TIED CARD OF 'laws.FnWriteApart'. -/
def fnWriteApartCard : Claim7 := { stood := { row := fnWriteApartRow, standIns := [], harness := (true, "aa4be021c9bc03faa9ec1e3d6ea161c4b40185b8468e7a9672307c7f20d8bd41"), looks := false }, kinds := [], alts := [], laidByText := true, laidKinds := [.data, .pinned], laidTests := true, laidLooks := .later }
def FnWriteApartCardSaid : Prop := Claim7.holds Tryz.pinned (.plain (OpenSpec.ofChange fnWriteApartSpec)) fnWriteApartCard

/-- THE TIED CARD OF 'laws.FnTreeBoth'. -/
def fnTreeBothCard : Claim7 := { stood := { row := fnTreeBothRow, standIns := [], harness := (true, "aa4be021c9bc03faa9ec1e3d6ea161c4b40185b8468e7a9672307c7f20d8bd41"), looks := false }, kinds := [], alts := [], laidByText := true, laidKinds := [.data, .pinned], laidTests := true, laidLooks := .later }
def FnTreeBothCardSaid : Prop := Claim7.holds Tryz.pinned (.plain (OpenSpec.ofChange fnTreeBothSpec)) fnTreeBothCard

/-- THE TIED CARD OF 'laws.FnTreeThree'. -/
def fnTreeThreeCard : Claim7 := { stood := { row := fnTreeThreeRow, standIns := [], harness := (true, "aa4be021c9bc03faa9ec1e3d6ea161c4b40185b8468e7a9672307c7f20d8bd41"), looks := false }, kinds := [], alts := [], laidByText := true, laidKinds := [.data, .pinned], laidTests := true, laidLooks := .later }
def FnTreeThreeCardSaid : Prop := Claim7.holds Tryz.pinned (.plain (OpenSpec.ofChange fnTreeThreeSpec)) fnTreeThreeCard

/-- THE TIED CARD OF 'laws.FnTreeMerge'. -/
def fnTreeMergeCard : Claim7 := { stood := { row := fnTreeMergeRow, standIns := [], harness := (true, "aa4be021c9bc03faa9ec1e3d6ea161c4b40185b8468e7a9672307c7f20d8bd41"), looks := false }, kinds := [], alts := [], laidByText := true, laidKinds := [.data, .pinned], laidTests := true, laidLooks := .later }
def FnTreeMergeCardSaid : Prop := Claim7.holds Tryz.pinned (.plain (OpenSpec.ofChange fnTreeMergeSpec)) fnTreeMergeCard

/-- THE SECOND FORM's CARD OF 'laws.FnExactTreeWrite'. -/
def fnExactTreeWriteUptoCard : Claim7 := { stood := { row := fnExactTreeWriteUptoRow, standIns := [], harness := (true, "aa4be021c9bc03faa9ec1e3d6ea161c4b40185b8468e7a9672307c7f20d8bd41"), looks := false }, kinds := [], alts := [], laidByText := true, laidKinds := [.data, .pinned], laidTests := true, laidLooks := .later }
def FnExactTreeWriteUptoCardSaid : Prop := Claim7.holds Tryz.pinned (.plain (OpenSpec.upto fnExactTreeWriteSpec)) fnExactTreeWriteUptoCard

/-- THE SECOND FORM's CARD OF 'laws.FnExactTreeMerge'. -/
def fnExactTreeMergeUptoCard : Claim7 := { stood := { row := fnExactTreeMergeUptoRow, standIns := [], harness := (true, "aa4be021c9bc03faa9ec1e3d6ea161c4b40185b8468e7a9672307c7f20d8bd41"), looks := false }, kinds := [], alts := [], laidByText := true, laidKinds := [.data, .pinned], laidTests := true, laidLooks := .later }
def FnExactTreeMergeUptoCardSaid : Prop := Claim7.holds Tryz.pinned (.plain (OpenSpec.upto fnExactTreeMergeSpec)) fnExactTreeMergeUptoCard

/-- THE SECOND FORM's CARD OF 'laws.FnWriteMerge'. -/
def fnWriteMergeUptoCard : Claim7 := { stood := { row := fnWriteMergeUptoRow, standIns := [], harness := (true, "aa4be021c9bc03faa9ec1e3d6ea161c4b40185b8468e7a9672307c7f20d8bd41"), looks := false }, kinds := [], alts := [], laidByText := true, laidKinds := [.data, .pinned], laidTests := true, laidLooks := .later }
def FnWriteMergeUptoCardSaid : Prop := Claim7.holds Tryz.pinned (.plain (OpenSpec.upto fnWriteMergeSpec)) fnWriteMergeUptoCard

/-- THE SECOND FORM's CARD OF 'laws.FnWriteApart'. -/
def fnWriteApartUptoCard : Claim7 := { stood := { row := fnWriteApartUptoRow, standIns := [], harness := (true, "aa4be021c9bc03faa9ec1e3d6ea161c4b40185b8468e7a9672307c7f20d8bd41"), looks := false }, kinds := [], alts := [], laidByText := true, laidKinds := [.data, .pinned], laidTests := true, laidLooks := .later }
def FnWriteApartUptoCardSaid : Prop := Claim7.holds Tryz.pinned (.plain (OpenSpec.upto fnWriteApartSpec)) fnWriteApartUptoCard

/-- THE SECOND FORM's CARD OF 'laws.FnTreeBoth'. -/
def fnTreeBothUptoCard : Claim7 := { stood := { row := fnTreeBothUptoRow, standIns := [], harness := (true, "aa4be021c9bc03faa9ec1e3d6ea161c4b40185b8468e7a9672307c7f20d8bd41"), looks := false }, kinds := [], alts := [], laidByText := true, laidKinds := [.data, .pinned], laidTests := true, laidLooks := .later }
def FnTreeBothUptoCardSaid : Prop := Claim7.holds Tryz.pinned (.plain (OpenSpec.upto fnTreeBothSpec)) fnTreeBothUptoCard

/-- THE SECOND FORM's CARD OF 'laws.FnTreeThree'. -/
def fnTreeThreeUptoCard : Claim7 := { stood := { row := fnTreeThreeUptoRow, standIns := [], harness := (true, "aa4be021c9bc03faa9ec1e3d6ea161c4b40185b8468e7a9672307c7f20d8bd41"), looks := false }, kinds := [], alts := [], laidByText := true, laidKinds := [.data, .pinned], laidTests := true, laidLooks := .later }
def FnTreeThreeUptoCardSaid : Prop := Claim7.holds Tryz.pinned (.plain (OpenSpec.upto fnTreeThreeSpec)) fnTreeThreeUptoCard

/-- THE SECOND FORM's CARD OF 'laws.FnTreeMerge'. -/
def fnTreeMergeUptoCard : Claim7 := { stood := { row := fnTreeMergeUptoRow, standIns := [], harness := (true, "aa4be021c9bc03faa9ec1e3d6ea161c4b40185b8468e7a9672307c7f20d8bd41"), looks := false }, kinds := [], alts := [], laidByText := true, laidKinds := [.data, .pinned], laidTests := true, laidLooks := .later }
def FnTreeMergeUptoCardSaid : Prop := Claim7.holds Tryz.pinned (.plain (OpenSpec.upto fnTreeMergeSpec)) fnTreeMergeUptoCard
end Rows
end Go.Proofs.YtdidkfadiaafiaaGreatDoor
