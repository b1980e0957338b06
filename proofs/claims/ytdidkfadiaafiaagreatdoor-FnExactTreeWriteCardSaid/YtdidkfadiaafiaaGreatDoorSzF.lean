/- The laws' own sizes: szFileS. -/
import Derived.Test.YtdidkfadiaafiaaGreatDoorSz
namespace Go.Proofs.YtdidkfadiaafiaaGreatDoor
open Go Go.RowKit

set_option maxRecDepth 100000 in
set_option maxHeartbeats 1000000 in
theorem szFileS_any (x : Loc LFile) (left : Int) (w : World) (hx : x.At w) (h0 : 0 ≤ left ∧ left ≤ 1048576) :
    Calls Tryz.prog 10 #[x.val, .int .i64 left] w (SzPost w left (bulkFiles x.xs)) := by
  obtain ⟨xa, xc, xs⟩ := x
  simp only [Loc.val]
  have h1 := hx.lenMax
  simp only at h1
  obtain ⟨h2, h3⟩ := h0
  by_cases hlt0 : left - (xs.length : Int) < 0
  · go_enter Tryz.func10, Tryz.ntmps10
    go_wp2_with fail
    go_ret
    exact ⟨⟨_, rfl, .inl (by decide)⟩, Below.refl _ _⟩
  · go_enter Tryz.func10, Tryz.ntmps10
    go_wp2_with fail
    go_loopw [1, 5] (fun l i wr => ∃ (k : Nat) (r : Int), k ≤ xs.length ∧ i = .int .i64 k ∧ l = .int .i64 r ∧ 0 ≤ r ∧ r ≤ 1048576 ∧ r = left - xs.length - (((xs.take k).map bulkFile).sum : Nat) ∧ Below w.heap.size w wr) (fun _ i _ => xs.length - (intOf i).toNat)
    case atStart => exact ⟨0, _, Nat.zero_le _, rfl, rfl, by omega, by omega, by simp, Below.refl _ _⟩
    case round =>
      obtain ⟨k, r, hk, rfl, rfl, hr0, hr1, hrr, hb⟩ := hrel
      have HR := Lib.hid hrr
      clear hrr
      by_cases hlt : k < xs.length
      · obtain ⟨a, ao, ha⟩ := hx.place hlt
        simp only at ha
        subst ha
        have hcs := (hx.belowAll hb).file rfl hlt
        simp only at hcs
        have hc := Lib.hid (szFile_any xs[k] r wr ((hx.belowAll hb).elem (List.getElem_mem hlt)) ⟨hr0, hr1⟩)
        go_wp2_with fail
        refine hc.out.mono ?_
        rintro e w' ⟨⟨q, rfl, hq⟩, hb2⟩
        have HQ := Lib.hid hq
        by_cases hq0 : q < 0
        · clear hq hcs
          go_wp2_with fail
          go_ret
          exact ⟨⟨_, rfl, .inl (by decide)⟩, hb.trans (hb2.mono hb.size)⟩
        · have hq1 : q ≤ 1048576 := by rcases hq with h | h <;> omega
          clear hq hcs
          go_wp2_with fail
          go_roundw
          case rel =>
            refine ⟨k + 1, q, by omega, by go_num, rfl, by omega, by omega, ?_, hb.trans (hb2.mono hb.size)⟩
            rcases HQ.out with h | h
            · omega
            · rw [h, HR.out, sum_take_succ bulkFile hlt]; omega
          case measure => simp [intOf]; omega
      · have HK := Lib.hid (show k = xs.length by omega)
        go_wp2_with fail
        go_ret
        refine ⟨⟨_, rfl, .inr ?_⟩, hb⟩
        rw [HR.out, HK.out, List.take_length]
        simp only [bulkFiles]
        omega
end Go.Proofs.YtdidkfadiaafiaaGreatDoor
