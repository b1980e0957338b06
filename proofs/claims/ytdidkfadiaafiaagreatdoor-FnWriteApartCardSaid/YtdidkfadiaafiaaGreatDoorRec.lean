/- isRec, areRecs, isLog: what they answer. -/
import Derived.Test.YtdidkfadiaafiaaGreatDoorTree
namespace Go.Proofs.YtdidkfadiaafiaaGreatDoor
open Go Go.RowKit

theorem empty_iff {s : ByteArray} : s = ByteArray.empty ↔ s.toList = [] := by rw [← toList_inj, empty_toList]

noncomputable def recB (r : Rec) : Bool :=
  if r.kind = 1 then nameB r.name && sibsB r.sibs && decide (r.n = 0) && decide (r.sum = 0)
  else if r.kind = 2 then decide (r.name = ByteArray.empty) && decide (r.sibs = []) && decide (1 ≤ r.n ∧ r.n ≤ 6) && decide (0 ≤ r.sum ∧ r.sum ≤ 96)
  else false

/-- What is asked of the predicate: at each element, in each later world. -/
def PredOnR (g : Nat) (cap : Array Value) (xs : List LRec) (p : LRec → Bool) (w : World) : Prop :=
  ∀ W x, x ∈ xs → Below w.heap.size w W → Calls Tryz.prog g (#[x.val] ++ cap) W fun e W' => e = .returned (.bool (p x)) ∧ Below W.heap.size W W'

noncomputable def recsB (l : List Rec) : Bool := l.all recB

noncomputable def logB (l : Log) : Bool := decide (0 ≤ l.from_) && decide (l.from_ ≤ 5000) && decide (l.from_ % 5 = 0) && decide (l.recs.length ≤ 40) && recsB l.recs

theorem logB_iff (l : Log) : logB l = true ↔ 0 ≤ l.from_ ∧ l.from_ ≤ 5000 ∧ l.from_ % 5 = 0 ∧ l.recs.length ≤ 40 ∧ recsB l.recs = true := by
  simp only [logB, Bool.and_eq_true, decide_eq_true_eq, and_assoc]

end Go.Proofs.YtdidkfadiaafiaaGreatDoor
