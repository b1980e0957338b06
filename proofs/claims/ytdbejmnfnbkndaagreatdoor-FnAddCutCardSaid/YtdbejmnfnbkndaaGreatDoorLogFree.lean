/- LogFree, the program's and the reference's. LogFree of the program. LogFree, the program's and the reference's. -/
import Derived.Test.YtdbejmnfnbkndaaGreatDoorLogCut
import Derived.Deep.LoopGhost
namespace Go.Proofs.YtdbejmnfnbkndaaGreatDoor
open Go Go.RowKit

/-- How many segments are freed. -/
def freeN (f n : Int) (len : Nat) : Nat := min (len / 5) ((n - f).toNat / 5)
theorem freeN_lt {f n : Int} {len : Nat} (j : Nat) : j < freeN f n len ↔ (5 * j + 5 ≤ len ∧ f + 5 * j + 5 ≤ n) := by unfold freeN; omega

/-- The rest of a slice's records behind five. -/
theorem drop5 {w : World} {b o : Nat} {cap : Nat} {xs : List LRec} (h : Loc.At w (⟨some ⟨b, o, none⟩, cap, xs⟩ : Loc LRec)) (h5 : 5 ≤ xs.length) :
    Loc.At w (⟨some ⟨b, o + 25, none⟩, cap - 5, xs.drop 5⟩ : Loc LRec) ∧ List.Sublist (Loc.fp (⟨some ⟨b, o + 25, none⟩, cap - 5, xs.drop 5⟩ : Loc LRec)) (Loc.fp (⟨some ⟨b, o, none⟩, cap, xs⟩ : Loc LRec)) := by
  refine ⟨drop_At h rfl h5, ?_⟩
  unfold Loc.fp
  refine List.Sublist.append ?_ ?_
  · unfold Loc.blk
    simp only
    by_cases h2 : xs.drop 5 = []
    · simp [h2]
    · have h3 : xs ≠ [] := by intro h4; subst h4; simp at h5
      simp only [if_neg h2, if_neg h3]; exact List.Sublist.refl _
  · conv => rhs; rw [← List.take_append_drop 5 xs, List.flatMap_append]
    exact List.sublist_append_right _ _

end Go.Proofs.YtdbejmnfnbkndaaGreatDoor

namespace Go.Proofs.YtdbejmnfnbkndaaGreatDoor
open Go Go.RowKit

end Go.Proofs.YtdbejmnfnbkndaaGreatDoor

namespace Go.Proofs.YtdbejmnfnbkndaaGreatDoor
open Go Go.RowKit

/-- What both LogFrees answer. -/
noncomputable def freeZ (n : Int) (l : Log) : Log := if logB l = true ∧ 0 ≤ n then ⟨l.from_ + 5 * (freeN l.from_ n l.recs.length : Nat), l.recs.drop (5 * freeN l.from_ n l.recs.length)⟩ else ⟨0, []⟩
theorem freeZ_no1 {n : Int} {l : Log} (h : logB l = false) : freeZ n l = ⟨0, []⟩ := by unfold freeZ; rw [if_neg (by simp [h])]
theorem freeZ_no2 {n : Int} {l : Log} (h : n < 0) : freeZ n l = ⟨0, []⟩ := by unfold freeZ; rw [if_neg (by omega)]
theorem freeZ_k (n : Int) (l : Log) : recsK (freeZ n l).recs ∧ (freeZ n l).recs.length ≤ 40 := by
  rw [freeZ]
  split
  · rename_i h
    have h2 := (logB_iff _).1 h.1
    exact ⟨fun r hr => logB_recsK h.1 r (List.mem_of_mem_drop hr), by have := h2.2.2.2.1; simp only [List.length_drop]; omega⟩
  · exact ⟨fun r hr => (by simp at hr), Nat.zero_le _⟩

end Go.Proofs.YtdbejmnfnbkndaaGreatDoor
