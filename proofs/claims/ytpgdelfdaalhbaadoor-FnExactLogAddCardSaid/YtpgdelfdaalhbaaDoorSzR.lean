/- The laws' size counters for records and logs: szRec, szRecS, szLog. -/
import Derived.Test.YtpgdelfdaalhbaaDoorSz
namespace Go.Proofs.YtpgdelfdaalhbaaDoor
open Go Go.RowKit

def bulkLog (x : LLog) : Nat := bulkRecs x.recs.xs
def LLog.At (w : World) (x : LLog) : Prop := x.recs.At w

set_option maxRecDepth 100000 in
set_option maxHeartbeats 400000 in
theorem szRec_any (x : LRec) (left : Int) (w : World) (hx : Dat.At w x) (h0 : 0 ≤ left ∧ left ≤ 1048576) :
    Calls Tryd.prog 54 #[x.val, .int .i64 left] w (SzPost w left (bulkRec x)) := by
  obtain ⟨xk, xn, xs, xm, xq⟩ := x
  simp only [LRec.val]
  have hB := (Below.refl w.heap.size w).alloc (Nat.le_refl _) (Obj.cells #[.int .i64 xk, .string xn, xs.val, .int .i64 xm, .int .i64 xq] 81)
  have hc := Lib.hid (szFile_any ⟨xn, xs⟩ left _ (Dat.belowAll (α := LFile) (x := ⟨xn, xs⟩) hx hB) h0)
  simp only [LFile.val] at hc
  have HB := Lib.hid hB
  clear hB
  obtain ⟨h2, h3⟩ := h0
  go_enter Tryd.func54, Tryd.ntmps54
  go_wp2_with fail
  refine hc.out.mono ?_
  rintro e w' ⟨⟨r, rfl, hr⟩, hb⟩
  have HBB := Lib.hid (HB.out.trans (hb.mono (by simp)))
  have HR := Lib.hid hr
  clear hr
  go_wp2_with fail
  all_goals
    go_ret
    refine ⟨⟨_, rfl, ?_⟩, HBB.out⟩
    first
      | exact .inl (by decide)
      | exact HR.out

set_option maxRecDepth 100000 in
set_option maxHeartbeats 1000000 in
theorem szRecS_any (x : Loc LRec) (left : Int) (w : World) (hx : x.At w) (h0 : 0 ≤ left ∧ left ≤ 1048576) :
    Calls Tryd.prog 23 #[x.val, .int .i64 left] w (SzPost w left (bulkRecs x.xs)) := by
  obtain ⟨xa, xc, xs⟩ := x
  simp only [Loc.val]
  have h1 := hx.lenMax
  simp only at h1
  obtain ⟨h2, h3⟩ := h0
  by_cases hlt0 : left - (xs.length : Int) < 0
  · go_enter Tryd.func23, Tryd.ntmps23
    go_wp2_with fail
    go_ret
    exact ⟨⟨_, rfl, .inl (by decide)⟩, Below.refl _ _⟩
  · go_enter Tryd.func23, Tryd.ntmps23
    go_wp2_with fail
    go_loopw [1, 5] (fun l i wr => ∃ (k : Nat) (r : Int), k ≤ xs.length ∧ i = .int .i64 k ∧ l = .int .i64 r ∧ 0 ≤ r ∧ r ≤ 1048576 ∧ r = left - xs.length - (((xs.take k).map bulkRec).sum : Nat) ∧ Below w.heap.size w wr) (fun _ i _ => xs.length - (intOf i).toNat)
    case atStart => exact ⟨0, _, Nat.zero_le _, rfl, rfl, by omega, by omega, by simp, Below.refl _ _⟩
    case round =>
      obtain ⟨k, r, hk, rfl, rfl, hr0, hr1, hrr, hb⟩ := hrel
      have HR := Lib.hid hrr
      clear hrr
      by_cases hlt : k < xs.length
      · obtain ⟨a, ao, ha⟩ := hx.place hlt
        simp only at ha
        subst ha
        have hcs := (hx.belowAll hb).rec_ rfl hlt
        simp only at hcs
        have hc := Lib.hid (szRec_any xs[k] r wr ((hx.belowAll hb).elem (List.getElem_mem hlt)) ⟨hr0, hr1⟩)
        go_wp2_with fail
        refine hc.out.mono ?_
        rintro e w' ⟨⟨q, rfl, hq⟩, hb2⟩
        have HQ := Lib.hid hq
        by_cases hq0 : q < 0
        · clear hq hcs
          go_wp2_with fail
          go_ret
          exact ⟨⟨_, rfl, .inl (by decide)⟩, hb.trans (hb2.mono hb.size)⟩
        · have hq1 : q ≤ 1048576 := by rcases hq with h | h <;> omega
          clear hq hcs
          go_wp2_with fail
          go_roundw
          case rel =>
            refine ⟨k + 1, q, by omega, by go_num, rfl, by omega, by omega, ?_, hb.trans (hb2.mono hb.size)⟩
            rcases HQ.out with h | h
            · omega
            · rw [h, HR.out, sum_take_succ bulkRec hlt]; omega
          case measure => simp [intOf]; omega
      · have HK := Lib.hid (show k = xs.length by omega)
        go_wp2_with fail
        go_ret
        refine ⟨⟨_, rfl, .inr ?_⟩, hb⟩
        rw [HR.out, HK.out, List.take_length]
        simp only [bulkRecs]
        omega

set_option maxRecDepth 100000 in
set_option maxHeartbeats 400000 in
theorem szLog_any (x : LLog) (left : Int) (w : World) (hx : x.At w) (h0 : 0 ≤ left ∧ left ≤ 1048576) :
    Calls Tryd.prog 11 #[x.val, .int .i64 left] w (SzPost w left (bulkLog x)) := by
  obtain ⟨xf, xr⟩ := x
  simp only [LLog.val]
  have hB := (Below.refl w.heap.size w).alloc (Nat.le_refl _) (Obj.cells #[.int .i64 xf, xr.val] 24)
  have hc := Lib.hid (szRecS_any xr left _ (Loc.At.belowAll hx hB) h0)
  have HB := Lib.hid hB
  clear hB
  obtain ⟨h2, h3⟩ := h0
  go_enter Tryd.func11, Tryd.ntmps11
  go_wp2_with fail
  refine hc.out.mono ?_
  rintro e w' ⟨⟨r, rfl, hr⟩, hb⟩
  have HBB := Lib.hid (HB.out.trans (hb.mono (by simp)))
  have HR := Lib.hid hr
  clear hr
  go_wp2_with fail
  all_goals
    go_ret
    refine ⟨⟨_, rfl, ?_⟩, HBB.out⟩
    first
      | exact .inl (by decide)
      | exact HR.out
end Go.Proofs.YtpgdelfdaalhbaaDoor
