/- The laws' own sizes: szIntS, szSib, szSibS, szFile, szFileS. -/
import Derived.Test.YtdidkfadiaafiaaDoorSpec5
namespace Go.Proofs.YtdidkfadiaafiaaDoor
open Go Go.RowKit

def bulkSib (s : LSib) : Nat := s.vv.xs.length + s.text.size
def bulkSibs (l : List LSib) : Nat := l.length + (l.map bulkSib).sum
def bulkFile (f : LFile) : Nat := f.name.size + bulkSibs f.sibs.xs
def bulkFiles (l : List LFile) : Nat := l.length + (l.map bulkFile).sum
def bulkRec (r : LRec) : Nat := r.name.size + bulkSibs r.sibs.xs
def bulkRecs (l : List LRec) : Nat := l.length + (l.map bulkRec).sum

/-- What a size's call answers: below zero, or what is left. -/
def SzPost (w : World) (left : Int) (bulk : Nat) (e : Ending) (w' : World) : Prop :=
  (∃ r : Int, e = .returned (.int .i64 r) ∧ (r < 0 ∨ r = left - bulk)) ∧ Below w.heap.size w w'

theorem sum_take_succ {α : Type} (f : α → Nat) {xs : List α} {k : Nat} (h : k < xs.length) : ((xs.take (k + 1)).map f).sum = ((xs.take k).map f).sum + f xs[k] := by
  rw [List.take_succ_eq_append_getElem h, List.map_append, List.sum_append_nat]
  rfl

end Go.Proofs.YtdidkfadiaafiaaDoor
