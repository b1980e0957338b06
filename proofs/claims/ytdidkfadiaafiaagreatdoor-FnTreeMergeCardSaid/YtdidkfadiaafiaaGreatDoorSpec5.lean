/- The reference's RecOk, LogOk: they answer as the program's. -/
import Derived.Test.YtdidkfadiaafiaaGreatDoorSpec4
namespace Go.Proofs.YtdidkfadiaafiaaGreatDoor
open Go Go.RowKit

theorem recB_done (n : ByteArray) (s : List Sib) (a b : Int) : recB ⟨2, n, s, a, b⟩ = (decide (n = ByteArray.empty) && decide (s = []) && decide (1 ≤ a ∧ a ≤ 6) && decide (0 ≤ b ∧ b ≤ 96)) := by
  unfold recB
  rw [if_neg (show ¬ (2 : Int) = 1 by decide), if_pos (show (2 : Int) = 2 from rfl)]

theorem recsB_drop {xs : List LRec} {k : Nat} (h : k < xs.length) : recsB ((xs.drop k).map LRec.er) = (recB xs[k].er && recsB ((xs.drop (k + 1)).map LRec.er)) := by
  rw [List.drop_eq_getElem_cons h]; rfl

end Go.Proofs.YtdidkfadiaafiaaGreatDoor
