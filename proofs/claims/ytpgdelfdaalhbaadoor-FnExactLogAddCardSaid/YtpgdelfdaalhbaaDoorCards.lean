/-
  DERIVED. GIVEN WITH THE SEED: THE CARDS: each row of YtpgdelfdaalhbaaDoorRows.lean that lists a variable, with what it lists TIED to the program's text (the seventh form; the later family's looks); each row that meets fmt, with fmt's text TOLD by the authors' own Lean function (tested against real Go, not proved from fmt's source: count such statements apart). THE CARD IS WHAT COUNTS. Prove the row's statement (the work); the ties are given (YtpgdelfdaalhbaaDoorTie.lean); close each card by the builder's one call (the guide's Derived/Test/ToyasCard.lean, 'card_holds'). Laid BY PROGRAM, IN A SANDBOX (cutbox-door.mjs). By AI agents, Wed Nov 11 2026. No macro, syntax, notation, axiom, sorry.
-/
import Derived.Test.YtpgdelfdaalhbaaDoorRows
import GoSem.ClaimSeven
namespace Go.Proofs.YtpgdelfdaalhbaaDoor
namespace Rows

/-- THE TIED CARD OF 'laws.FnExactLogRest'. -/
def fnExactLogRestCard : Claim7 := { stood := { row := fnExactLogRestRow, standIns := [], harness := (true, "03b3ac291e32995ddf078ed5c92a251355688f8fdecbfa44e98e98e6b830281a"), looks := false }, kinds := [], alts := [], laidByText := true, laidKinds := [.data, .pinned], laidTests := true, laidLooks := .later }
def FnExactLogRestCardSaid : Prop := Claim7.holds Tryd.pinned (.plain (OpenSpec.ofChange fnExactLogRestSpec)) fnExactLogRestCard

/-- THE TIED CARD OF 'laws.FnExactLogCut'. -/
def fnExactLogCutCard : Claim7 := { stood := { row := fnExactLogCutRow, standIns := [], harness := (true, "03b3ac291e32995ddf078ed5c92a251355688f8fdecbfa44e98e98e6b830281a"), looks := false }, kinds := [], alts := [], laidByText := true, laidKinds := [.data, .pinned], laidTests := true, laidLooks := .later }
def FnExactLogCutCardSaid : Prop := Claim7.holds Tryd.pinned (.plain (OpenSpec.ofChange fnExactLogCutSpec)) fnExactLogCutCard

/-- THE TIED CARD OF 'laws.FnExactLogAdd'. -/
def fnExactLogAddCard : Claim7 := { stood := { row := fnExactLogAddRow, standIns := [], harness := (true, "03b3ac291e32995ddf078ed5c92a251355688f8fdecbfa44e98e98e6b830281a"), looks := false }, kinds := [], alts := [], laidByText := true, laidKinds := [.data, .pinned], laidTests := true, laidLooks := .later }
def FnExactLogAddCardSaid : Prop := Claim7.holds Tryd.pinned (.plain (OpenSpec.ofChange fnExactLogAddSpec)) fnExactLogAddCard

/-- THE TIED CARD OF 'laws.FnExactLogFree'. -/
def fnExactLogFreeCard : Claim7 := { stood := { row := fnExactLogFreeRow, standIns := [], harness := (true, "03b3ac291e32995ddf078ed5c92a251355688f8fdecbfa44e98e98e6b830281a"), looks := false }, kinds := [], alts := [], laidByText := true, laidKinds := [.data, .pinned], laidTests := true, laidLooks := .later }
def FnExactLogFreeCardSaid : Prop := Claim7.holds Tryd.pinned (.plain (OpenSpec.ofChange fnExactLogFreeSpec)) fnExactLogFreeCard

/-- THE TIED CARD OF 'laws.FnWriteTwo'. -/
def fnWriteTwoCard : Claim7 := { stood := { row := fnWriteTwoRow, standIns := [], harness := (true, "03b3ac291e32995ddf078ed5c92a251355688f8fdecbfa44e98e98e6b830281a"), looks := false }, kinds := [], alts := [], laidByText := true, laidKinds := [.data, .pinned], laidTests := true, laidLooks := .later }
def FnWriteTwoCardSaid : Prop := Claim7.holds Tryd.pinned (.plain (OpenSpec.ofChange fnWriteTwoSpec)) fnWriteTwoCard

/-- THE TIED CARD OF 'laws.FnTreeWrite'. -/
def fnTreeWriteCard : Claim7 := { stood := { row := fnTreeWriteRow, standIns := [], harness := (true, "03b3ac291e32995ddf078ed5c92a251355688f8fdecbfa44e98e98e6b830281a"), looks := false }, kinds := [], alts := [], laidByText := true, laidKinds := [.data, .pinned], laidTests := true, laidLooks := .later }
def FnTreeWriteCardSaid : Prop := Claim7.holds Tryd.pinned (.plain (OpenSpec.ofChange fnTreeWriteSpec)) fnTreeWriteCard

/-- THE TIED CARD OF 'laws.FnTreeWriteNot'. -/
def fnTreeWriteNotCard : Claim7 := { stood := { row := fnTreeWriteNotRow, standIns := [], harness := (true, "03b3ac291e32995ddf078ed5c92a251355688f8fdecbfa44e98e98e6b830281a"), looks := false }, kinds := [], alts := [], laidByText := true, laidKinds := [.data, .pinned], laidTests := true, laidLooks := .later }
def FnTreeWriteNotCardSaid : Prop := Claim7.holds Tryd.pinned (.plain (OpenSpec.ofChange fnTreeWriteNotSpec)) fnTreeWriteNotCard

/-- THE TIED CARD OF 'laws.FnGoneWrite'. -/
def fnGoneWriteCard : Claim7 := { stood := { row := fnGoneWriteRow, standIns := [], harness := (true, "03b3ac291e32995ddf078ed5c92a251355688f8fdecbfa44e98e98e6b830281a"), looks := false }, kinds := [], alts := [], laidByText := true, laidKinds := [.data, .pinned], laidTests := true, laidLooks := .later }
def FnGoneWriteCardSaid : Prop := Claim7.holds Tryd.pinned (.plain (OpenSpec.ofChange fnGoneWriteSpec)) fnGoneWriteCard

/-- THE SECOND FORM's CARD OF 'laws.FnExactLogRest'. -/
def fnExactLogRestUptoCard : Claim7 := { stood := { row := fnExactLogRestUptoRow, standIns := [], harness := (true, "03b3ac291e32995ddf078ed5c92a251355688f8fdecbfa44e98e98e6b830281a"), looks := false }, kinds := [], alts := [], laidByText := true, laidKinds := [.data, .pinned], laidTests := true, laidLooks := .later }
def FnExactLogRestUptoCardSaid : Prop := Claim7.holds Tryd.pinned (.plain (OpenSpec.upto fnExactLogRestSpec)) fnExactLogRestUptoCard

/-- THE SECOND FORM's CARD OF 'laws.FnExactLogCut'. -/
def fnExactLogCutUptoCard : Claim7 := { stood := { row := fnExactLogCutUptoRow, standIns := [], harness := (true, "03b3ac291e32995ddf078ed5c92a251355688f8fdecbfa44e98e98e6b830281a"), looks := false }, kinds := [], alts := [], laidByText := true, laidKinds := [.data, .pinned], laidTests := true, laidLooks := .later }
def FnExactLogCutUptoCardSaid : Prop := Claim7.holds Tryd.pinned (.plain (OpenSpec.upto fnExactLogCutSpec)) fnExactLogCutUptoCard

/-- THE SECOND FORM's CARD OF 'laws.FnExactLogAdd'. -/
def fnExactLogAddUptoCard : Claim7 := { stood := { row := fnExactLogAddUptoRow, standIns := [], harness := (true, "03b3ac291e32995ddf078ed5c92a251355688f8fdecbfa44e98e98e6b830281a"), looks := false }, kinds := [], alts := [], laidByText := true, laidKinds := [.data, .pinned], laidTests := true, laidLooks := .later }
def FnExactLogAddUptoCardSaid : Prop := Claim7.holds Tryd.pinned (.plain (OpenSpec.upto fnExactLogAddSpec)) fnExactLogAddUptoCard

/-- THE SECOND FORM's CARD OF 'laws.FnExactLogFree'. -/
def fnExactLogFreeUptoCard : Claim7 := { stood := { row := fnExactLogFreeUptoRow, standIns := [], harness := (true, "03b3ac291e32995ddf078ed5c92a251355688f8fdecbfa44e98e98e6b830281a"), looks := false }, kinds := [], alts := [], laidByText := true, laidKinds := [.data, .pinned], laidTests := true, laidLooks := .later }
def FnExactLogFreeUptoCardSaid : Prop := Claim7.holds Tryd.pinned (.plain (OpenSpec.upto fnExactLogFreeSpec)) fnExactLogFreeUptoCard

/-- THE SECOND FORM's CARD OF 'laws.FnWriteTwo'. -/
def fnWriteTwoUptoCard : Claim7 := { stood := { row := fnWriteTwoUptoRow, standIns := [], harness := (true, "03b3ac291e32995ddf078ed5c92a251355688f8fdecbfa44e98e98e6b830281a"), looks := false }, kinds := [], alts := [], laidByText := true, laidKinds := [.data, .pinned], laidTests := true, laidLooks := .later }
def FnWriteTwoUptoCardSaid : Prop := Claim7.holds Tryd.pinned (.plain (OpenSpec.upto fnWriteTwoSpec)) fnWriteTwoUptoCard

/-- THE SECOND FORM's CARD OF 'laws.FnTreeWrite'. -/
def fnTreeWriteUptoCard : Claim7 := { stood := { row := fnTreeWriteUptoRow, standIns := [], harness := (true, "03b3ac291e32995ddf078ed5c92a251355688f8fdecbfa44e98e98e6b830281a"), looks := false }, kinds := [], alts := [], laidByText := true, laidKinds := [.data, .pinned], laidTests := true, laidLooks := .later }
def FnTreeWriteUptoCardSaid : Prop := Claim7.holds Tryd.pinned (.plain (OpenSpec.upto fnTreeWriteSpec)) fnTreeWriteUptoCard

/-- THE SECOND FORM's CARD OF 'laws.FnTreeWriteNot'. -/
def fnTreeWriteNotUptoCard : Claim7 := { stood := { row := fnTreeWriteNotUptoRow, standIns := [], harness := (true, "03b3ac291e32995ddf078ed5c92a251355688f8fdecbfa44e98e98e6b830281a"), looks := false }, kinds := [], alts := [], laidByText := true, laidKinds := [.data, .pinned], laidTests := true, laidLooks := .later }
def FnTreeWriteNotUptoCardSaid : Prop := Claim7.holds Tryd.pinned (.plain (OpenSpec.upto fnTreeWriteNotSpec)) fnTreeWriteNotUptoCard

/-- THE SECOND FORM's CARD OF 'laws.FnGoneWrite'. -/
def fnGoneWriteUptoCard : Claim7 := { stood := { row := fnGoneWriteUptoRow, standIns := [], harness := (true, "03b3ac291e32995ddf078ed5c92a251355688f8fdecbfa44e98e98e6b830281a"), looks := false }, kinds := [], alts := [], laidByText := true, laidKinds := [.data, .pinned], laidTests := true, laidLooks := .later }
def FnGoneWriteUptoCardSaid : Prop := Claim7.holds Tryd.pinned (.plain (OpenSpec.upto fnGoneWriteSpec)) fnGoneWriteUptoCard
end Rows
end Go.Proofs.YtpgdelfdaalhbaaDoor
