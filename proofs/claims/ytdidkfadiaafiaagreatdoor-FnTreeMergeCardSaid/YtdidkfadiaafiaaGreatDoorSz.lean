/- The laws' own sizes: szIntS, szSib, szSibS, szFile, szFileS. -/
import Derived.Test.YtdidkfadiaafiaaGreatDoorSpec5
namespace Go.Proofs.YtdidkfadiaafiaaGreatDoor
open Go Go.RowKit

def bulkSib (s : LSib) : Nat := s.vv.xs.length + s.text.size
def bulkSibs (l : List LSib) : Nat := l.length + (l.map bulkSib).sum
def bulkFile (f : LFile) : Nat := f.name.size + bulkSibs f.sibs.xs
def bulkFiles (l : List LFile) : Nat := l.length + (l.map bulkFile).sum
def bulkRec (r : LRec) : Nat := r.name.size + bulkSibs r.sibs.xs
def bulkRecs (l : List LRec) : Nat := l.length + (l.map bulkRec).sum

/-- What a size's call answers: below zero, or what is left. -/
def SzPost (w : World) (left : Int) (bulk : Nat) (e : Ending) (w' : World) : Prop :=
  (∃ r : Int, e = .returned (.int .i64 r) ∧ (r < 0 ∨ r = left - bulk)) ∧ Below w.heap.size w w'

theorem sum_take_succ {α : Type} (f : α → Nat) {xs : List α} {k : Nat} (h : k < xs.length) : ((xs.take (k + 1)).map f).sum = ((xs.take k).map f).sum + f xs[k] := by
  rw [List.take_succ_eq_append_getElem h, List.map_append, List.sum_append_nat]
  rfl

theorem szIntS_any (x : Loc Int) (left : Int) (w : World) (hx : x.At w) (h0 : 0 ≤ left ∧ left ≤ 1048576) :
    Calls Tryz.prog 119 #[x.val, .int .i64 left] w (SzPost w left x.xs.length) := by
  obtain ⟨xa, xc, xs⟩ := x
  simp only [Loc.val]
  have h1 := hx.lenMax
  simp only at h1
  obtain ⟨h2, h3⟩ := h0
  go_enter Tryz.func119, Tryz.ntmps119
  go_wp2_with fail
  all_goals
    go_ret
    refine ⟨⟨_, rfl, ?_⟩, Below.refl _ _⟩
    first | exact .inl (by decide) | exact .inr rfl

set_option maxRecDepth 100000 in
theorem szSib_any (x : LSib) (left : Int) (w : World) (hx : Dat.At w x) (h0 : 0 ≤ left ∧ left ≤ 1048576) :
    Calls Tryz.prog 88 #[x.val, .int .i64 left] w (SzPost w left (bulkSib x)) := by
  obtain ⟨xv, xg, xt⟩ := x
  simp only [LSib.val]
  have hB := (Below.refl w.heap.size w).alloc (Nat.le_refl _) (Obj.cells #[xv.val, Value.bool xg, Value.string xt] 101)
  have hsz : xt.size ≤ 9223372036854775807 := hx.2
  have hc := Lib.hid (szIntS_any xv left _ (Loc.At.belowAll hx.1 hB) h0)
  have HB := Lib.hid hB
  clear hB
  obtain ⟨h2, h3⟩ := h0
  go_enter Tryz.func88, Tryz.ntmps88
  go_wp2_with fail
  refine hc.out.mono ?_
  rintro e w' ⟨⟨r, rfl, hr⟩, hb⟩
  have e2 : w'.cell? ⟨w.heap.size, 2, none⟩ = some (.string xt) := (hb.cell (by simp)).trans (cell_of_row _ _ _ _ _ (0, 0) (heap_alloc_new w _))
  have HBB := Lib.hid (HB.out.trans (hb.mono (by simp)))
  have HR := Lib.hid hr
  by_cases hr0 : r < 0
  · clear hr
    go_wp2_with fail
    go_ret
    exact ⟨⟨_, rfl, .inl (by decide)⟩, HBB.out⟩
  · have hr1 : r ≤ 1048576 := by rcases hr with h | h <;> omega
    clear hr
    go_wp2_with fail
    all_goals
      go_ret
      refine ⟨⟨_, rfl, ?_⟩, HBB.out⟩
      first
        | exact .inl (by decide)
        | (right; rcases HR.out with h | h; (exfalso; omega); (rw [h]; simp only [bulkSib]; omega))

set_option maxRecDepth 100000 in
set_option maxHeartbeats 1000000 in
theorem szSibS_any (x : Loc LSib) (left : Int) (w : World) (hx : x.At w) (h0 : 0 ≤ left ∧ left ≤ 1048576) :
    Calls Tryz.prog 56 #[x.val, .int .i64 left] w (SzPost w left (bulkSibs x.xs)) := by
  obtain ⟨xa, xc, xs⟩ := x
  simp only [Loc.val]
  have h1 := hx.lenMax
  simp only at h1
  obtain ⟨h2, h3⟩ := h0
  by_cases hlt0 : left - (xs.length : Int) < 0
  · go_enter Tryz.func56, Tryz.ntmps56
    go_wp2_with fail
    go_ret
    exact ⟨⟨_, rfl, .inl (by decide)⟩, Below.refl _ _⟩
  · go_enter Tryz.func56, Tryz.ntmps56
    go_wp2_with fail
    go_loopw [1, 5] (fun l i wr => ∃ (k : Nat) (r : Int), k ≤ xs.length ∧ i = .int .i64 k ∧ l = .int .i64 r ∧ 0 ≤ r ∧ r ≤ 1048576 ∧ r = left - xs.length - (((xs.take k).map bulkSib).sum : Nat) ∧ Below w.heap.size w wr) (fun _ i _ => xs.length - (intOf i).toNat)
    case atStart => exact ⟨0, _, Nat.zero_le _, rfl, rfl, by omega, by omega, by simp, Below.refl _ _⟩
    case round =>
      obtain ⟨k, r, hk, rfl, rfl, hr0, hr1, hrr, hb⟩ := hrel
      have HR := Lib.hid hrr
      clear hrr
      by_cases hlt : k < xs.length
      · obtain ⟨a, ao, ha⟩ := hx.place hlt
        simp only at ha
        subst ha
        have hcs := (hx.belowAll hb).sib rfl hlt
        simp only at hcs
        have hc := Lib.hid (szSib_any xs[k] r wr ((hx.belowAll hb).elem (List.getElem_mem hlt)) ⟨hr0, hr1⟩)
        go_wp2_with fail
        refine hc.out.mono ?_
        rintro e w' ⟨⟨q, rfl, hq⟩, hb2⟩
        have HQ := Lib.hid hq
        by_cases hq0 : q < 0
        · clear hq hcs
          go_wp2_with fail
          go_ret
          exact ⟨⟨_, rfl, .inl (by decide)⟩, hb.trans (hb2.mono hb.size)⟩
        · have hq1 : q ≤ 1048576 := by rcases hq with h | h <;> omega
          clear hq hcs
          go_wp2_with fail
          go_roundw
          case rel =>
            refine ⟨k + 1, q, by omega, by go_num, rfl, by omega, by omega, ?_, hb.trans (hb2.mono hb.size)⟩
            rcases HQ.out with h | h
            · omega
            · rw [h, HR.out, sum_take_succ bulkSib hlt]; omega
          case measure => simp [intOf]; omega
      · have HK := Lib.hid (show k = xs.length by omega)
        go_wp2_with fail
        go_ret
        refine ⟨⟨_, rfl, .inr ?_⟩, hb⟩
        rw [HR.out, HK.out, List.take_length]
        simp only [bulkSibs]
        omega

set_option maxRecDepth 100000 in
theorem szFile_any (x : LFile) (left : Int) (w : World) (hx : Dat.At w x) (h0 : 0 ≤ left ∧ left ≤ 1048576) :
    Calls Tryz.prog 28 #[x.val, .int .i64 left] w (SzPost w left (bulkFile x)) := by
  obtain ⟨xn, xs⟩ := x
  simp only [LFile.val]
  have hB := (Below.refl w.heap.size w).alloc (Nat.le_refl _) (Obj.cells #[.string xn, xs.val] 55)
  have hsz : xn.size ≤ 9223372036854775807 := hx.2
  have hc := Lib.hid (fun l h => szSibS_any xs l _ (Loc.At.belowAll hx.1 hB) h)
  have HB := Lib.hid hB
  clear hB
  obtain ⟨h2, h3⟩ := h0
  by_cases hl : left - (xn.size : Int) < 0
  · go_enter Tryz.func28, Tryz.ntmps28
    go_wp2_with fail
    go_ret
    exact ⟨⟨_, rfl, .inl (by decide)⟩, HB.out⟩
  · go_enter Tryz.func28, Tryz.ntmps28
    go_wp2_with fail
    refine (hc.out _ (by omega)).mono ?_
    rintro e w' ⟨⟨r, rfl, hr⟩, hb⟩
    have HBB := Lib.hid (HB.out.trans (hb.mono (by simp)))
    have HR := Lib.hid hr
    clear hr
    go_wp2_with fail
    all_goals
      go_ret
      refine ⟨⟨_, rfl, ?_⟩, HBB.out⟩
      first
        | exact .inl (by decide)
        | (rcases HR.out with h | h; (exact .inl h); (right; rw [h]; simp only [bulkFile]; omega))

end Go.Proofs.YtdidkfadiaafiaaGreatDoor
