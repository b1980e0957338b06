/- Arguments opened: records and logs. -/
import Derived.Test.YtpgdelfdaalhbaaDoorOpen
import Derived.Test.YtpgdelfdaalhbaaDoorSzR
namespace Go.Proofs.YtpgdelfdaalhbaaDoor
open Go Go.RowKit Go.ChangeShapes Go.WideShapes Go.Deep Go.Joins

section
variable {H : Type} {enc : TypeId × Value → H} {w : World} {base : Nat} {spare : Nat → Bool} {held : Bool} {fuel : Nat} {cs : List Value} {x : DataW H × List MemPlace}

theorem cellsT_rec : Tryd.prog.cellsOf 81 = 5 := by kernel_rfl
theorem cellsT_recs : Tryd.prog.cellsOf 22 = 1 := by kernel_rfl
theorem cellsT_log : Tryd.prog.cellsOf 24 = 2 := by kernel_rfl

theorem open_rec (h : DataW.trod enc Tryd.prog w base spare held fuel 81 cs = some x) : ∃ y : LRec, cs = Dat.enc y ∧ Dat.At w y := by
  obtain ⟨y0, y1, y2, y3, n, _, hl, h0, h1, h2, h3⟩ := trod_struct4 Tryd.underlying81 h
  rw [cellsT_rec] at hl
  simp only [cellsT_int, cellsT_file] at h0 h1 h2 h3
  match cs, hl with
  | [c0, c1, c2, c3, c4], _ =>
    obtain ⟨k, e0, _⟩ := DataW.trod_int Tryd.underlying3 h0
    obtain ⟨f, e1, hf⟩ := open_file h1
    obtain ⟨m, e2, _⟩ := DataW.trod_int Tryd.underlying3 h2
    obtain ⟨q, e3, _⟩ := DataW.trod_int Tryd.underlying3 h3
    obtain ⟨fn, fs⟩ := f
    simp [Dat.enc, LFile.cells] at e0 e1 e2 e3
    obtain ⟨rfl, rfl⟩ := e1
    subst e0 e2 e3
    exact ⟨⟨k, fn, fs, m, q⟩, rfl, hf⟩

theorem open_recs (h : DataW.trod enc Tryd.prog w base spare held fuel 22 cs = some x) : ∃ l : Loc LRec, cs = [l.val] ∧ l.At w :=
  open_loc Tryd.underlying22 cellsT_rec (fun _ _ _ h => open_rec h) h

theorem open_log (h : DataW.trod enc Tryd.prog w base spare held fuel 24 cs = some x) : ∃ y : LLog, cs = [.int .i64 y.from_, y.recs.val] ∧ y.At w := by
  obtain ⟨y0, y1, n, _, hl, h0, h1⟩ := trod_struct2 Tryd.underlying24 h
  rw [cellsT_log] at hl
  simp only [cellsT_int, cellsT_recs] at h0 h1
  match cs, hl with
  | [c0, c1], _ =>
    obtain ⟨k, e0, _⟩ := DataW.trod_int Tryd.underlying3 h0
    obtain ⟨l, e1, hA⟩ := open_recs h1
    simp at e0 e1
    subst e0 e1
    exact ⟨⟨k, l⟩, rfl, hA⟩
end
end Go.Proofs.YtpgdelfdaalhbaaDoor
