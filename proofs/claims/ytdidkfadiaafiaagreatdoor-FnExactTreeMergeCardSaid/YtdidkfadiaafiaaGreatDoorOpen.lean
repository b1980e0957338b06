/- Arguments opened: files. -/
import Derived.Test.YtdidkfadiaafiaaGreatDoorOpenB
namespace Go.Proofs.YtdidkfadiaafiaaGreatDoor
open Go Go.RowKit Go.ChangeShapes Go.WideShapes Go.Deep

section
variable {H : Type} {enc : TypeId × Value → H} {w : World} {base : Nat} {spare : Nat → Bool} {held : Bool} {fuel : Nat} {cs : List Value} {x : DataW H × List MemPlace}

theorem cellsT_ints : Tryz.prog.cellsOf 40 = 1 := by kernel_rfl
theorem cellsT_int : Tryz.prog.cellsOf 3 = 1 := by kernel_rfl
theorem cellsT_bool : Tryz.prog.cellsOf 4 = 1 := by kernel_rfl
theorem cellsT_string : Tryz.prog.cellsOf 9 = 1 := by kernel_rfl
theorem cellsT_sib : Tryz.prog.cellsOf 101 = 3 := by kernel_rfl
theorem cellsT_sibs : Tryz.prog.cellsOf 53 = 1 := by kernel_rfl
theorem cellsT_file : Tryz.prog.cellsOf 55 = 2 := by kernel_rfl

theorem open_ints' (h : DataW.trod enc Tryz.prog w base spare held fuel 40 cs = some x) : ∃ l : Loc Int, cs = [l.val] ∧ l.At w := by
  refine open_loc Tryz.underlying40 cellsT_int (fun n cs x h => ?_) h
  obtain ⟨n, rfl, _⟩ := DataW.trod_int Tryz.underlying3 h
  exact ⟨n, rfl, trivial⟩

theorem open_sib (h : DataW.trod enc Tryz.prog w base spare held fuel 101 cs = some x) : ∃ y : LSib, cs = Dat.enc y ∧ Dat.At w y := by
  obtain ⟨y0, y1, y2, n, _, hl, h0, h1, h2⟩ := trod_struct3 Tryz.underlying101 h
  rw [cellsT_sib] at hl
  simp only [cellsT_ints, cellsT_bool, cellsT_string] at h0 h1 h2
  match cs, hl with
  | [c0, c1, c2], _ =>
    obtain ⟨l, e0, hA⟩ := open_ints' h0
    obtain ⟨b, e1, _⟩ := DataW.trod_bool Tryz.underlying4 h1
    obtain ⟨s, e2, _, hs⟩ := DataW.trod_string Tryz.underlying9 h2
    simp at e0 e1 e2
    subst e0 e1 e2
    exact ⟨⟨l, b, s⟩, rfl, hA, hs⟩

theorem open_sibs (h : DataW.trod enc Tryz.prog w base spare held fuel 53 cs = some x) : ∃ l : Loc LSib, cs = [l.val] ∧ l.At w :=
  open_loc Tryz.underlying53 cellsT_sib (fun _ _ _ h => open_sib h) h

theorem open_file (h : DataW.trod enc Tryz.prog w base spare held fuel 55 cs = some x) : ∃ y : LFile, cs = Dat.enc y ∧ Dat.At w y := by
  obtain ⟨y0, y1, n, _, hl, h0, h1⟩ := trod_struct2 Tryz.underlying55 h
  rw [cellsT_file] at hl
  simp only [cellsT_string, cellsT_sibs] at h0 h1
  match cs, hl with
  | [c0, c1], _ =>
    obtain ⟨s, e0, _, hs⟩ := DataW.trod_string Tryz.underlying9 h0
    obtain ⟨l, e1, hA⟩ := open_sibs h1
    simp at e0 e1
    subst e0 e1
    exact ⟨⟨s, l⟩, rfl, hA, hs⟩

end
end Go.Proofs.YtdidkfadiaafiaaGreatDoor
