/-
  DERIVED. GIVEN WITH THE SEED: THE CARDS: each row of YtjlaaoecockfjaaDoorRows.lean that lists a variable, with what it lists TIED to the program's text (the seventh form; the later family's looks); each row that meets fmt, with fmt's text TOLD by the authors' own Lean function (tested against real Go, not proved from fmt's source: count such statements apart). THE CARD IS WHAT COUNTS. Prove the row's statement (the work); the ties are given (YtjlaaoecockfjaaDoorTie.lean); close each card by the builder's one call (the guide's Derived/Test/ToyasCard.lean, 'card_holds'). Laid BY PROGRAM, IN A SANDBOX (cutbox-door.mjs). By AI agents, Wed Nov 11 2026. No macro, syntax, notation, axiom, sorry.
-/
import Derived.Test.YtjlaaoecockfjaaDoorRows
import GoSem.ClaimSeven
namespace Go.Proofs.YtjlaaoecockfjaaDoor
namespace Rows

/-- THE TIED CARD OF 'laws.FnRecForm'. -/
def fnRecFormCard : Claim7 := { stood := { row := fnRecFormRow, standIns := [], harness := (true, "bc97ef1957f717b053e407d818b554eebe70d8f4f911f695e77292e26ea094db"), looks := false }, kinds := [], alts := [], laidByText := true, laidKinds := [.data, .pinned], laidTests := true, laidLooks := .later }
def FnRecFormCardSaid : Prop := Claim7.holds Tryd.pinned (.plain (OpenSpec.ofChange fnRecFormSpec)) fnRecFormCard

/-- THE TIED CARD OF 'laws.FnExactTreeOk'. -/
def fnExactTreeOkCard : Claim7 := { stood := { row := fnExactTreeOkRow, standIns := [], harness := (true, "bc97ef1957f717b053e407d818b554eebe70d8f4f911f695e77292e26ea094db"), looks := false }, kinds := [], alts := [], laidByText := true, laidKinds := [.data, .pinned], laidTests := true, laidLooks := .later }
def FnExactTreeOkCardSaid : Prop := Claim7.holds Tryd.pinned (.plain (OpenSpec.ofChange fnExactTreeOkSpec)) fnExactTreeOkCard

/-- THE TIED CARD OF 'laws.FnExactRecOk'. -/
def fnExactRecOkCard : Claim7 := { stood := { row := fnExactRecOkRow, standIns := [], harness := (true, "bc97ef1957f717b053e407d818b554eebe70d8f4f911f695e77292e26ea094db"), looks := false }, kinds := [], alts := [], laidByText := true, laidKinds := [.data, .pinned], laidTests := true, laidLooks := .later }
def FnExactRecOkCardSaid : Prop := Claim7.holds Tryd.pinned (.plain (OpenSpec.ofChange fnExactRecOkSpec)) fnExactRecOkCard

/-- THE TIED CARD OF 'laws.FnTreeShow'. -/
def fnTreeShowCard : Claim7 := { stood := { row := fnTreeShowRow, standIns := [], harness := (true, "bc97ef1957f717b053e407d818b554eebe70d8f4f911f695e77292e26ea094db"), looks := false }, kinds := [], alts := [], laidByText := true, laidKinds := [.data, .pinned], laidTests := true, laidLooks := .later }
def FnTreeShowCardSaid : Prop := Claim7.holds Tryd.pinned (.plain (OpenSpec.ofChange fnTreeShowSpec)) fnTreeShowCard

/-- THE TIED CARD OF 'laws.FnTreeAt'. -/
def fnTreeAtCard : Claim7 := { stood := { row := fnTreeAtRow, standIns := [], harness := (true, "bc97ef1957f717b053e407d818b554eebe70d8f4f911f695e77292e26ea094db"), looks := false }, kinds := [], alts := [], laidByText := true, laidKinds := [.data, .pinned], laidTests := true, laidLooks := .later }
def FnTreeAtCardSaid : Prop := Claim7.holds Tryd.pinned (.plain (OpenSpec.ofChange fnTreeAtSpec)) fnTreeAtCard

/-- THE TIED CARD OF 'laws.FnExactTreeShow'. -/
def fnExactTreeShowCard : Claim7 := { stood := { row := fnExactTreeShowRow, standIns := [], harness := (true, "bc97ef1957f717b053e407d818b554eebe70d8f4f911f695e77292e26ea094db"), looks := false }, kinds := [], alts := [], laidByText := true, laidKinds := [.data, .pinned], laidTests := true, laidLooks := .later }
def FnExactTreeShowCardSaid : Prop := Claim7.holds Tryd.pinned (.plain (OpenSpec.ofChange fnExactTreeShowSpec)) fnExactTreeShowCard

/-- THE TIED CARD OF 'laws.FnExactLogOk'. -/
def fnExactLogOkCard : Claim7 := { stood := { row := fnExactLogOkRow, standIns := [], harness := (true, "bc97ef1957f717b053e407d818b554eebe70d8f4f911f695e77292e26ea094db"), looks := false }, kinds := [], alts := [], laidByText := true, laidKinds := [.data, .pinned], laidTests := true, laidLooks := .later }
def FnExactLogOkCardSaid : Prop := Claim7.holds Tryd.pinned (.plain (OpenSpec.ofChange fnExactLogOkSpec)) fnExactLogOkCard

/-- THE TIED CARD OF 'laws.FnExactLogEnd'. -/
def fnExactLogEndCard : Claim7 := { stood := { row := fnExactLogEndRow, standIns := [], harness := (true, "bc97ef1957f717b053e407d818b554eebe70d8f4f911f695e77292e26ea094db"), looks := false }, kinds := [], alts := [], laidByText := true, laidKinds := [.data, .pinned], laidTests := true, laidLooks := .later }
def FnExactLogEndCardSaid : Prop := Claim7.holds Tryd.pinned (.plain (OpenSpec.ofChange fnExactLogEndSpec)) fnExactLogEndCard

/-- THE TIED CARD OF 'laws.FnLogForm'. -/
def fnLogFormCard : Claim7 := { stood := { row := fnLogFormRow, standIns := [], harness := (true, "bc97ef1957f717b053e407d818b554eebe70d8f4f911f695e77292e26ea094db"), looks := false }, kinds := [], alts := [], laidByText := true, laidKinds := [.data, .pinned], laidTests := true, laidLooks := .later }
def FnLogFormCardSaid : Prop := Claim7.holds Tryd.pinned (.plain (OpenSpec.ofChange fnLogFormSpec)) fnLogFormCard

/-- THE TIED CARD OF 'laws.FnExactTreeAt'. -/
def fnExactTreeAtCard : Claim7 := { stood := { row := fnExactTreeAtRow, standIns := [], harness := (true, "bc97ef1957f717b053e407d818b554eebe70d8f4f911f695e77292e26ea094db"), looks := false }, kinds := [], alts := [], laidByText := true, laidKinds := [.data, .pinned], laidTests := true, laidLooks := .later }
def FnExactTreeAtCardSaid : Prop := Claim7.holds Tryd.pinned (.plain (OpenSpec.ofChange fnExactTreeAtSpec)) fnExactTreeAtCard

/-- THE SECOND FORM's CARD OF 'laws.FnRecForm'. -/
def fnRecFormUptoCard : Claim7 := { stood := { row := fnRecFormUptoRow, standIns := [], harness := (true, "bc97ef1957f717b053e407d818b554eebe70d8f4f911f695e77292e26ea094db"), looks := false }, kinds := [], alts := [], laidByText := true, laidKinds := [.data, .pinned], laidTests := true, laidLooks := .later }
def FnRecFormUptoCardSaid : Prop := Claim7.holds Tryd.pinned (.plain (OpenSpec.upto fnRecFormSpec)) fnRecFormUptoCard

/-- THE SECOND FORM's CARD OF 'laws.FnExactTreeOk'. -/
def fnExactTreeOkUptoCard : Claim7 := { stood := { row := fnExactTreeOkUptoRow, standIns := [], harness := (true, "bc97ef1957f717b053e407d818b554eebe70d8f4f911f695e77292e26ea094db"), looks := false }, kinds := [], alts := [], laidByText := true, laidKinds := [.data, .pinned], laidTests := true, laidLooks := .later }
def FnExactTreeOkUptoCardSaid : Prop := Claim7.holds Tryd.pinned (.plain (OpenSpec.upto fnExactTreeOkSpec)) fnExactTreeOkUptoCard

/-- THE SECOND FORM's CARD OF 'laws.FnExactRecOk'. -/
def fnExactRecOkUptoCard : Claim7 := { stood := { row := fnExactRecOkUptoRow, standIns := [], harness := (true, "bc97ef1957f717b053e407d818b554eebe70d8f4f911f695e77292e26ea094db"), looks := false }, kinds := [], alts := [], laidByText := true, laidKinds := [.data, .pinned], laidTests := true, laidLooks := .later }
def FnExactRecOkUptoCardSaid : Prop := Claim7.holds Tryd.pinned (.plain (OpenSpec.upto fnExactRecOkSpec)) fnExactRecOkUptoCard

/-- THE SECOND FORM's CARD OF 'laws.FnTreeShow'. -/
def fnTreeShowUptoCard : Claim7 := { stood := { row := fnTreeShowUptoRow, standIns := [], harness := (true, "bc97ef1957f717b053e407d818b554eebe70d8f4f911f695e77292e26ea094db"), looks := false }, kinds := [], alts := [], laidByText := true, laidKinds := [.data, .pinned], laidTests := true, laidLooks := .later }
def FnTreeShowUptoCardSaid : Prop := Claim7.holds Tryd.pinned (.plain (OpenSpec.upto fnTreeShowSpec)) fnTreeShowUptoCard

/-- THE SECOND FORM's CARD OF 'laws.FnTreeAt'. -/
def fnTreeAtUptoCard : Claim7 := { stood := { row := fnTreeAtUptoRow, standIns := [], harness := (true, "bc97ef1957f717b053e407d818b554eebe70d8f4f911f695e77292e26ea094db"), looks := false }, kinds := [], alts := [], laidByText := true, laidKinds := [.data, .pinned], laidTests := true, laidLooks := .later }
def FnTreeAtUptoCardSaid : Prop := Claim7.holds Tryd.pinned (.plain (OpenSpec.upto fnTreeAtSpec)) fnTreeAtUptoCard

/-- THE SECOND FORM's CARD OF 'laws.FnExactTreeShow'. -/
def fnExactTreeShowUptoCard : Claim7 := { stood := { row := fnExactTreeShowUptoRow, standIns := [], harness := (true, "bc97ef1957f717b053e407d818b554eebe70d8f4f911f695e77292e26ea094db"), looks := false }, kinds := [], alts := [], laidByText := true, laidKinds := [.data, .pinned], laidTests := true, laidLooks := .later }
def FnExactTreeShowUptoCardSaid : Prop := Claim7.holds Tryd.pinned (.plain (OpenSpec.upto fnExactTreeShowSpec)) fnExactTreeShowUptoCard

/-- THE SECOND FORM's CARD OF 'laws.FnExactLogOk'. -/
def fnExactLogOkUptoCard : Claim7 := { stood := { row := fnExactLogOkUptoRow, standIns := [], harness := (true, "bc97ef1957f717b053e407d818b554eebe70d8f4f911f695e77292e26ea094db"), looks := false }, kinds := [], alts := [], laidByText := true, laidKinds := [.data, .pinned], laidTests := true, laidLooks := .later }
def FnExactLogOkUptoCardSaid : Prop := Claim7.holds Tryd.pinned (.plain (OpenSpec.upto fnExactLogOkSpec)) fnExactLogOkUptoCard

/-- THE SECOND FORM's CARD OF 'laws.FnExactLogEnd'. -/
def fnExactLogEndUptoCard : Claim7 := { stood := { row := fnExactLogEndUptoRow, standIns := [], harness := (true, "bc97ef1957f717b053e407d818b554eebe70d8f4f911f695e77292e26ea094db"), looks := false }, kinds := [], alts := [], laidByText := true, laidKinds := [.data, .pinned], laidTests := true, laidLooks := .later }
def FnExactLogEndUptoCardSaid : Prop := Claim7.holds Tryd.pinned (.plain (OpenSpec.upto fnExactLogEndSpec)) fnExactLogEndUptoCard

/-- THE SECOND FORM's CARD OF 'laws.FnLogForm'. -/
def fnLogFormUptoCard : Claim7 := { stood := { row := fnLogFormUptoRow, standIns := [], harness := (true, "bc97ef1957f717b053e407d818b554eebe70d8f4f911f695e77292e26ea094db"), looks := false }, kinds := [], alts := [], laidByText := true, laidKinds := [.data, .pinned], laidTests := true, laidLooks := .later }
def FnLogFormUptoCardSaid : Prop := Claim7.holds Tryd.pinned (.plain (OpenSpec.upto fnLogFormSpec)) fnLogFormUptoCard

/-- THE SECOND FORM's CARD OF 'laws.FnExactTreeAt'. -/
def fnExactTreeAtUptoCard : Claim7 := { stood := { row := fnExactTreeAtUptoRow, standIns := [], harness := (true, "bc97ef1957f717b053e407d818b554eebe70d8f4f911f695e77292e26ea094db"), looks := false }, kinds := [], alts := [], laidByText := true, laidKinds := [.data, .pinned], laidTests := true, laidLooks := .later }
def FnExactTreeAtUptoCardSaid : Prop := Claim7.holds Tryd.pinned (.plain (OpenSpec.upto fnExactTreeAtSpec)) fnExactTreeAtUptoCard
end Rows
end Go.Proofs.YtjlaaoecockfjaaDoor
