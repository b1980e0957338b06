/- How many marks data has. -/
import Derived.Test.YtdidkfadiaafiaaGreatDoorAnew
import Derived.Test.YtdidkfadiaafiaaGreatDoorMarks
import Derived.Test.YtdidkfadiaafiaaGreatDoorSz
namespace Go.Proofs.YtdidkfadiaafiaaGreatDoor
open Go Go.RowKit

theorem lenS_le : ∀ l : List LSib, lenS (l.map LSib.er) ≤ 2 * bulkSibs l
  | [] => Nat.le_refl _
  | s :: r => by
    have h := lenS_le r
    simp only [List.map_cons, lenS, bulkSibs, List.length_cons, List.sum_cons, bulkSib] at h ⊢
    have : s.er.vv.length = s.vv.xs.length := rfl
    omega
theorem lenS_ok {l : List Sib} (h : l = [] ∨ SibsOK l) : lenS l ≤ 60 := by
  rcases h with rfl | h
  · exact Nat.zero_le _
  · have key : ∀ (l : List Sib), (∀ s ∈ l, s.vv.length = 3) → lenS l = 5 * l.length := by
      intro l
      induction l with
      | nil => intro _; rfl
      | cons s l ih => intro hl; rw [lenS, ih fun t ht => hl t (List.mem_cons_of_mem _ ht), hl s List.mem_cons_self, List.length_cons]; omega
    rw [key l fun s hs => by obtain ⟨i, hi, rfl⟩ := List.getElem_of_mem hs; exact sibB_len (h.each i hi)]
    have := h.few
    omega

end Go.Proofs.YtdidkfadiaafiaaGreatDoor
