/- Arguments opened: files. -/
import Derived.Test.YtdidkfadiaafiaaGreatDoorOpen
namespace Go.Proofs.YtdidkfadiaafiaaGreatDoor
open Go Go.RowKit Go.ChangeShapes Go.WideShapes Go.Deep

section
variable {H : Type} {enc : TypeId × Value → H} {w : World} {base : Nat} {spare : Nat → Bool} {held : Bool} {fuel : Nat} {cs : List Value} {x : DataW H × List MemPlace}
theorem open_files (h : DataW.trod enc Tryz.prog w base spare held fuel 22 cs = some x) : ∃ l : Loc LFile, cs = [l.val] ∧ l.At w :=
  open_loc Tryz.underlying22 cellsT_file (fun _ _ _ h => open_file h) h
end
end Go.Proofs.YtdidkfadiaafiaaGreatDoor
