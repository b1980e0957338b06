/-
  DERIVED. GIVEN WITH THE SEED: THE CARDS: each row of YtdbejmnfnbkndaaGreatDoorRows.lean that lists a variable, with what it lists TIED to the program's text (the seventh form; the later family's looks); each row that meets fmt, with fmt's text TOLD by the authors' own Lean function (tested against real Go, not proved from fmt's source: count such statements apart). THE CARD IS WHAT COUNTS. Prove the row's statement (the work); the ties are given (YtdbejmnfnbkndaaGreatDoorTie.lean); close each card by the builder's one call (the guide's Derived/Test/ToyasCard.lean, 'card_holds'). Laid BY PROGRAM, IN A SANDBOX (cutbox-door.mjs). By AI agents, Wed Nov 11 2026. No macro, syntax, notation, axiom, sorry.
-/
import Derived.Test.YtdbejmnfnbkndaaGreatDoorRows
import GoSem.ClaimSeven
namespace Go.Proofs.YtdbejmnfnbkndaaGreatDoor
namespace Rows

/-- THE TIED CARD OF 'laws.FnAddCut'. -/
def fnAddCutCard : Claim7 := { stood := { row := fnAddCutRow, standIns := [], harness := (true, "48e6a247ce079f52d8fcea98073d8cafbd0aea3c64bb3e0fd01d34226f59e122"), looks := false }, kinds := [], alts := [], laidByText := true, laidKinds := [.data, .pinned], laidTests := true, laidLooks := .later }
def FnAddCutCardSaid : Prop := Claim7.holds Tryz.pinned (.plain (OpenSpec.ofChange fnAddCutSpec)) fnAddCutCard

/-- THE SECOND FORM's CARD OF 'laws.FnAddCut'. -/
def fnAddCutUptoCard : Claim7 := { stood := { row := fnAddCutUptoRow, standIns := [], harness := (true, "48e6a247ce079f52d8fcea98073d8cafbd0aea3c64bb3e0fd01d34226f59e122"), looks := false }, kinds := [], alts := [], laidByText := true, laidKinds := [.data, .pinned], laidTests := true, laidLooks := .later }
def FnAddCutUptoCardSaid : Prop := Claim7.holds Tryz.pinned (.plain (OpenSpec.upto fnAddCutSpec)) fnAddCutUptoCard
end Rows
end Go.Proofs.YtdbejmnfnbkndaaGreatDoor
