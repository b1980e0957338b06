/-
  DERIVED. GIVEN WITH THE SEED: THE CARDS: each row of YtdidkfadiaafiaaDoorRows.lean that lists a variable, with what it lists TIED to the program's text (the seventh form; the later family's looks); each row that meets fmt, with fmt's text TOLD by the authors' own Lean function (tested against real Go, not proved from fmt's source: count such statements apart). THE CARD IS WHAT COUNTS. Prove the row's statement (the work); the ties are given (YtdidkfadiaafiaaDoorTie.lean); close each card by the builder's one call (the guide's Derived/Test/ToyasCard.lean, 'card_holds'). Laid BY PROGRAM, IN A SANDBOX (cutbox-door.mjs). By AI agents, Wed Nov 11 2026. No macro, syntax, notation, axiom, sorry.
-/
import Derived.Test.YtdidkfadiaafiaaDoorRows
import GoSem.ClaimSeven
namespace Go.Proofs.YtdidkfadiaafiaaDoor
namespace Rows

/-- THE TIED CARD OF 'laws.FnTreeWrite'. -/
def fnTreeWriteCard : Claim7 := { stood := { row := fnTreeWriteRow, standIns := [], harness := (true, "469557b96345aa5f4e604e6dad0513d844e3b80c7b828372d06693c3bd5b5535"), looks := false }, kinds := [], alts := [], laidByText := true, laidKinds := [.data, .pinned], laidTests := true, laidLooks := .later }
def FnTreeWriteCardSaid : Prop := Claim7.holds Tryd.pinned (.plain (OpenSpec.ofChange fnTreeWriteSpec)) fnTreeWriteCard

/-- THE TIED CARD OF 'laws.FnTreeWriteNot'. -/
def fnTreeWriteNotCard : Claim7 := { stood := { row := fnTreeWriteNotRow, standIns := [], harness := (true, "469557b96345aa5f4e604e6dad0513d844e3b80c7b828372d06693c3bd5b5535"), looks := false }, kinds := [], alts := [], laidByText := true, laidKinds := [.data, .pinned], laidTests := true, laidLooks := .later }
def FnTreeWriteNotCardSaid : Prop := Claim7.holds Tryd.pinned (.plain (OpenSpec.ofChange fnTreeWriteNotSpec)) fnTreeWriteNotCard

/-- THE TIED CARD OF 'laws.FnGoneWrite'. -/
def fnGoneWriteCard : Claim7 := { stood := { row := fnGoneWriteRow, standIns := [], harness := (true, "469557b96345aa5f4e604e6dad0513d844e3b80c7b828372d06693c3bd5b5535"), looks := false }, kinds := [], alts := [], laidByText := true, laidKinds := [.data, .pinned], laidTests := true, laidLooks := .later }
def FnGoneWriteCardSaid : Prop := Claim7.holds Tryd.pinned (.plain (OpenSpec.ofChange fnGoneWriteSpec)) fnGoneWriteCard

/-- THE TIED CARD OF 'laws.FnWriteTwo'. -/
def fnWriteTwoCard : Claim7 := { stood := { row := fnWriteTwoRow, standIns := [], harness := (true, "469557b96345aa5f4e604e6dad0513d844e3b80c7b828372d06693c3bd5b5535"), looks := false }, kinds := [], alts := [], laidByText := true, laidKinds := [.data, .pinned], laidTests := true, laidLooks := .later }
def FnWriteTwoCardSaid : Prop := Claim7.holds Tryd.pinned (.plain (OpenSpec.ofChange fnWriteTwoSpec)) fnWriteTwoCard

/-- THE SECOND FORM's CARD OF 'laws.FnTreeWrite'. -/
def fnTreeWriteUptoCard : Claim7 := { stood := { row := fnTreeWriteUptoRow, standIns := [], harness := (true, "469557b96345aa5f4e604e6dad0513d844e3b80c7b828372d06693c3bd5b5535"), looks := false }, kinds := [], alts := [], laidByText := true, laidKinds := [.data, .pinned], laidTests := true, laidLooks := .later }
def FnTreeWriteUptoCardSaid : Prop := Claim7.holds Tryd.pinned (.plain (OpenSpec.upto fnTreeWriteSpec)) fnTreeWriteUptoCard

/-- THE SECOND FORM's CARD OF 'laws.FnTreeWriteNot'. -/
def fnTreeWriteNotUptoCard : Claim7 := { stood := { row := fnTreeWriteNotUptoRow, standIns := [], harness := (true, "469557b96345aa5f4e604e6dad0513d844e3b80c7b828372d06693c3bd5b5535"), looks := false }, kinds := [], alts := [], laidByText := true, laidKinds := [.data, .pinned], laidTests := true, laidLooks := .later }
def FnTreeWriteNotUptoCardSaid : Prop := Claim7.holds Tryd.pinned (.plain (OpenSpec.upto fnTreeWriteNotSpec)) fnTreeWriteNotUptoCard

/-- THE SECOND FORM's CARD OF 'laws.FnGoneWrite'. -/
def fnGoneWriteUptoCard : Claim7 := { stood := { row := fnGoneWriteUptoRow, standIns := [], harness := (true, "469557b96345aa5f4e604e6dad0513d844e3b80c7b828372d06693c3bd5b5535"), looks := false }, kinds := [], alts := [], laidByText := true, laidKinds := [.data, .pinned], laidTests := true, laidLooks := .later }
def FnGoneWriteUptoCardSaid : Prop := Claim7.holds Tryd.pinned (.plain (OpenSpec.upto fnGoneWriteSpec)) fnGoneWriteUptoCard

/-- THE SECOND FORM's CARD OF 'laws.FnWriteTwo'. -/
def fnWriteTwoUptoCard : Claim7 := { stood := { row := fnWriteTwoUptoRow, standIns := [], harness := (true, "469557b96345aa5f4e604e6dad0513d844e3b80c7b828372d06693c3bd5b5535"), looks := false }, kinds := [], alts := [], laidByText := true, laidKinds := [.data, .pinned], laidTests := true, laidLooks := .later }
def FnWriteTwoUptoCardSaid : Prop := Claim7.holds Tryd.pinned (.plain (OpenSpec.upto fnWriteTwoSpec)) fnWriteTwoUptoCard
end Rows
end Go.Proofs.YtdidkfadiaafiaaDoor
