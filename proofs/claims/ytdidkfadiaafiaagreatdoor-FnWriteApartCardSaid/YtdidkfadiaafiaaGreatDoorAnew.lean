/- Lists of versions anew: the reference's l3Sibs. -/
import Derived.Test.YtdidkfadiaafiaaGreatDoorMerge
import Derived.Test.YtdidkfadiaafiaaGreatDoorBox
namespace Go.Proofs.YtdidkfadiaafiaaGreatDoor
open Go Go.RowKit

theorem mergeL_id {l : List Sib} (h : l = [] ∨ SibsOK l) : mergeL l [] = l := by
  show keptL l = l
  rcases h with rfl | h
  · rfl
  · unfold keptL
    rw [List.filter_eq_self]
    intro s hs
    rw [Bool.not_eq_true', List.any_eq_false]
    intro t ht
    simp [h.free s hs t ht]

theorem sibsOk_len3 {l : List LSib} (h : l.map LSib.er = [] ∨ SibsOK (l.map LSib.er)) : (∀ s ∈ l, s.vv.xs.length = 3) ∧ l.length ≤ 12 := by
  rcases h with h | h
  · have : l = [] := by simpa using h
    subst this
    exact ⟨fun s hs => (by cases hs), Nat.zero_le _⟩
  · refine ⟨fun s hs => ?_, by have := h.few; simpa using this⟩
    obtain ⟨i, hi, rfl⟩ := List.getElem_of_mem hs
    have := h.each i (by simpa using hi)
    rw [List.getElem_map] at this
    exact sibB_len this

set_option maxRecDepth 100000 in
theorem l3Sibs_any (x : Loc LSib) (w : World) (hx : x.At w) (hk : x.xs.map LSib.er = [] ∨ SibsOK (x.xs.map LSib.er)) :
    Calls Tryz.prog 64 #[x.val] w (NewPost w (fun ys : List LSib => ys.map LSib.er = x.xs.map LSib.er)) := by
  obtain ⟨h3, h12⟩ := sibsOk_len3 hk
  have hG := Grows.start (α := LSib) w 42
  have hc := Lib.hid (l2Merge_any x ⟨some ⟨w.heap.size, 0, none⟩, 0, []⟩ _ (hx.belowAll hG.bel) hG.done.1 (by omega) (by simp) h3 (by simp))
  have HB := Lib.hid hG.bel
  have HK := Lib.hid hk
  clear hG hx h3 h12 hk
  go_enter Tryz.func64, Tryz.ntmps64
  go_wp2_with fail
  refine hc.out.mono ?_
  rintro e w' ⟨y, rfl, hy, hyA, hyF, hb⟩
  have HY := Lib.hid hy
  have HA := Lib.hid hyA
  have HF := Lib.hid hyF
  have HB2 := Lib.hid hb
  clear hy hyA hyF hb
  go_wp2_with fail
  go_ret
  exact ⟨y, rfl, (by have h : y.xs.map LSib.er = mergeL (x.xs.map LSib.er) ([] : List Sib) := HY.out; exact h.trans (mergeL_id HK.out)), HA.out, HF.out.mono HB.out.size, HB.out.trans (HB2.out.mono HB.out.size)⟩

end Go.Proofs.YtdidkfadiaafiaaGreatDoor
