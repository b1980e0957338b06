/-
  DERIVED. GIVEN WITH THE SEED: THE CARDS: each row of YtdbejmnfnbkndaaDoorRows.lean that lists a variable, with what it lists TIED to the program's text (the seventh form; the later family's looks); each row that meets fmt, with fmt's text TOLD by the authors' own Lean function (tested against real Go, not proved from fmt's source: count such statements apart). THE CARD IS WHAT COUNTS. Prove the row's statement (the work); the ties are given (YtdbejmnfnbkndaaDoorTie.lean); close each card by the builder's one call (the guide's Derived/Test/ToyasCard.lean, 'card_holds'). Laid BY PROGRAM, IN A SANDBOX (cutbox-door.mjs). By AI agents, Wed Nov 11 2026. No macro, syntax, notation, axiom, sorry.
-/
import Derived.Test.YtdbejmnfnbkndaaDoorRows
import GoSem.ClaimSeven
namespace Go.Proofs.YtdbejmnfnbkndaaDoor
namespace Rows

/-- THE TIED CARD OF 'laws.FnLogForm'. -/
def fnLogFormCard : Claim7 := { stood := { row := fnLogFormRow, standIns := [], harness := (true, "ac1048a38b6e6adb3b3667ba2ce8dd9c32f30789a98cc741bdac81bb0b1c6b1b"), looks := false }, kinds := [], alts := [], laidByText := true, laidKinds := [.data, .pinned], laidTests := true, laidLooks := .later }
def FnLogFormCardSaid : Prop := Claim7.holds Tryd.pinned (.plain (OpenSpec.ofChange fnLogFormSpec)) fnLogFormCard

/-- THE TIED CARD OF 'laws.FnLogEnd'. -/
def fnLogEndCard : Claim7 := { stood := { row := fnLogEndRow, standIns := [], harness := (true, "ac1048a38b6e6adb3b3667ba2ce8dd9c32f30789a98cc741bdac81bb0b1c6b1b"), looks := false }, kinds := [], alts := [], laidByText := true, laidKinds := [.data, .pinned], laidTests := true, laidLooks := .later }
def FnLogEndCardSaid : Prop := Claim7.holds Tryd.pinned (.plain (OpenSpec.ofChange fnLogEndSpec)) fnLogEndCard

/-- THE TIED CARD OF 'laws.FnLogRest'. -/
def fnLogRestCard : Claim7 := { stood := { row := fnLogRestRow, standIns := [], harness := (true, "ac1048a38b6e6adb3b3667ba2ce8dd9c32f30789a98cc741bdac81bb0b1c6b1b"), looks := false }, kinds := [], alts := [], laidByText := true, laidKinds := [.data, .pinned], laidTests := true, laidLooks := .later }
def FnLogRestCardSaid : Prop := Claim7.holds Tryd.pinned (.plain (OpenSpec.ofChange fnLogRestSpec)) fnLogRestCard

/-- THE TIED CARD OF 'laws.FnLogCut'. -/
def fnLogCutCard : Claim7 := { stood := { row := fnLogCutRow, standIns := [], harness := (true, "ac1048a38b6e6adb3b3667ba2ce8dd9c32f30789a98cc741bdac81bb0b1c6b1b"), looks := false }, kinds := [], alts := [], laidByText := true, laidKinds := [.data, .pinned], laidTests := true, laidLooks := .later }
def FnLogCutCardSaid : Prop := Claim7.holds Tryd.pinned (.plain (OpenSpec.ofChange fnLogCutSpec)) fnLogCutCard

/-- THE TIED CARD OF 'laws.FnLogAdd'. -/
def fnLogAddCard : Claim7 := { stood := { row := fnLogAddRow, standIns := [], harness := (true, "ac1048a38b6e6adb3b3667ba2ce8dd9c32f30789a98cc741bdac81bb0b1c6b1b"), looks := false }, kinds := [], alts := [], laidByText := true, laidKinds := [.data, .pinned], laidTests := true, laidLooks := .later }
def FnLogAddCardSaid : Prop := Claim7.holds Tryd.pinned (.plain (OpenSpec.ofChange fnLogAddSpec)) fnLogAddCard

/-- THE TIED CARD OF 'laws.FnLogFreeRest'. -/
def fnLogFreeRestCard : Claim7 := { stood := { row := fnLogFreeRestRow, standIns := [], harness := (true, "ac1048a38b6e6adb3b3667ba2ce8dd9c32f30789a98cc741bdac81bb0b1c6b1b"), looks := false }, kinds := [], alts := [], laidByText := true, laidKinds := [.data, .pinned], laidTests := true, laidLooks := .later }
def FnLogFreeRestCardSaid : Prop := Claim7.holds Tryd.pinned (.plain (OpenSpec.ofChange fnLogFreeRestSpec)) fnLogFreeRestCard

/-- THE TIED CARD OF 'laws.FnLogFree'. -/
def fnLogFreeCard : Claim7 := { stood := { row := fnLogFreeRow, standIns := [], harness := (true, "ac1048a38b6e6adb3b3667ba2ce8dd9c32f30789a98cc741bdac81bb0b1c6b1b"), looks := false }, kinds := [], alts := [], laidByText := true, laidKinds := [.data, .pinned], laidTests := true, laidLooks := .later }
def FnLogFreeCardSaid : Prop := Claim7.holds Tryd.pinned (.plain (OpenSpec.ofChange fnLogFreeSpec)) fnLogFreeCard

/-- THE SECOND FORM's CARD OF 'laws.FnLogForm'. -/
def fnLogFormUptoCard : Claim7 := { stood := { row := fnLogFormUptoRow, standIns := [], harness := (true, "ac1048a38b6e6adb3b3667ba2ce8dd9c32f30789a98cc741bdac81bb0b1c6b1b"), looks := false }, kinds := [], alts := [], laidByText := true, laidKinds := [.data, .pinned], laidTests := true, laidLooks := .later }
def FnLogFormUptoCardSaid : Prop := Claim7.holds Tryd.pinned (.plain (OpenSpec.upto fnLogFormSpec)) fnLogFormUptoCard

/-- THE SECOND FORM's CARD OF 'laws.FnLogEnd'. -/
def fnLogEndUptoCard : Claim7 := { stood := { row := fnLogEndUptoRow, standIns := [], harness := (true, "ac1048a38b6e6adb3b3667ba2ce8dd9c32f30789a98cc741bdac81bb0b1c6b1b"), looks := false }, kinds := [], alts := [], laidByText := true, laidKinds := [.data, .pinned], laidTests := true, laidLooks := .later }
def FnLogEndUptoCardSaid : Prop := Claim7.holds Tryd.pinned (.plain (OpenSpec.upto fnLogEndSpec)) fnLogEndUptoCard

/-- THE SECOND FORM's CARD OF 'laws.FnLogRest'. -/
def fnLogRestUptoCard : Claim7 := { stood := { row := fnLogRestUptoRow, standIns := [], harness := (true, "ac1048a38b6e6adb3b3667ba2ce8dd9c32f30789a98cc741bdac81bb0b1c6b1b"), looks := false }, kinds := [], alts := [], laidByText := true, laidKinds := [.data, .pinned], laidTests := true, laidLooks := .later }
def FnLogRestUptoCardSaid : Prop := Claim7.holds Tryd.pinned (.plain (OpenSpec.upto fnLogRestSpec)) fnLogRestUptoCard

/-- THE SECOND FORM's CARD OF 'laws.FnLogCut'. -/
def fnLogCutUptoCard : Claim7 := { stood := { row := fnLogCutUptoRow, standIns := [], harness := (true, "ac1048a38b6e6adb3b3667ba2ce8dd9c32f30789a98cc741bdac81bb0b1c6b1b"), looks := false }, kinds := [], alts := [], laidByText := true, laidKinds := [.data, .pinned], laidTests := true, laidLooks := .later }
def FnLogCutUptoCardSaid : Prop := Claim7.holds Tryd.pinned (.plain (OpenSpec.upto fnLogCutSpec)) fnLogCutUptoCard

/-- THE SECOND FORM's CARD OF 'laws.FnLogAdd'. -/
def fnLogAddUptoCard : Claim7 := { stood := { row := fnLogAddUptoRow, standIns := [], harness := (true, "ac1048a38b6e6adb3b3667ba2ce8dd9c32f30789a98cc741bdac81bb0b1c6b1b"), looks := false }, kinds := [], alts := [], laidByText := true, laidKinds := [.data, .pinned], laidTests := true, laidLooks := .later }
def FnLogAddUptoCardSaid : Prop := Claim7.holds Tryd.pinned (.plain (OpenSpec.upto fnLogAddSpec)) fnLogAddUptoCard

/-- THE SECOND FORM's CARD OF 'laws.FnLogFreeRest'. -/
def fnLogFreeRestUptoCard : Claim7 := { stood := { row := fnLogFreeRestUptoRow, standIns := [], harness := (true, "ac1048a38b6e6adb3b3667ba2ce8dd9c32f30789a98cc741bdac81bb0b1c6b1b"), looks := false }, kinds := [], alts := [], laidByText := true, laidKinds := [.data, .pinned], laidTests := true, laidLooks := .later }
def FnLogFreeRestUptoCardSaid : Prop := Claim7.holds Tryd.pinned (.plain (OpenSpec.upto fnLogFreeRestSpec)) fnLogFreeRestUptoCard

/-- THE SECOND FORM's CARD OF 'laws.FnLogFree'. -/
def fnLogFreeUptoCard : Claim7 := { stood := { row := fnLogFreeUptoRow, standIns := [], harness := (true, "ac1048a38b6e6adb3b3667ba2ce8dd9c32f30789a98cc741bdac81bb0b1c6b1b"), looks := false }, kinds := [], alts := [], laidByText := true, laidKinds := [.data, .pinned], laidTests := true, laidLooks := .later }
def FnLogFreeUptoCardSaid : Prop := Claim7.holds Tryd.pinned (.plain (OpenSpec.upto fnLogFreeSpec)) fnLogFreeUptoCard
end Rows
end Go.Proofs.YtdbejmnfnbkndaaDoor
