/- The laws' own equalities: eqFileS. The laws' own sizes: szFileS. The laws' own copies: toFileS. -/
import Derived.Test.YtdidkfadiaafiaaGreatDoorEq
import Derived.Test.YtdidkfadiaafiaaGreatDoorSz
import Derived.Test.YtdidkfadiaafiaaGreatDoorTo
namespace Go.Proofs.YtdidkfadiaafiaaGreatDoor
open Go Go.RowKit

set_option maxRecDepth 100000 in
set_option maxHeartbeats 1000000 in
theorem eqFileS_any (x y : Loc LFile) (w : World) (hx : x.At w) (hy : y.At w) :
    Calls Tryz.prog 14 #[x.val, y.val] w (EqPost w (x.xs.map LFile.er = y.xs.map LFile.er)) := by
  obtain ⟨xa, xc, xs⟩ := x
  obtain ⟨ya, yc, ys⟩ := y
  simp only [Loc.val]
  have h1 := hx.lenMax
  have h2 := hy.lenMax
  simp only at h1 h2
  by_cases hl : xs.length = ys.length
  · have hl1 : (((xs.length : Nat) : Int) != (ys.length : Nat)) = false := by simp [hl]
    have HL := Lib.hid hl
    clear hl
    go_enter Tryz.func14, Tryz.ntmps14
    go_wp2_with fail
    go_loopw [5] (fun i wr => ∃ k : Nat, k ≤ xs.length ∧ i = .int .i64 k ∧ (xs.map LFile.er).take k = (ys.map LFile.er).take k ∧ Below w.heap.size w wr) (fun i _ => xs.length - (intOf i).toNat)
    case atStart => exact ⟨0, Nat.zero_le _, rfl, rfl, Below.refl _ _⟩
    case round =>
      obtain ⟨k, hk, rfl, hrel, hb⟩ := hrel
      have HR := Lib.hid hrel
      clear hrel
      by_cases hlt : k < xs.length
      · have hlt2 : k < ys.length := by have := HL.out; omega
        obtain ⟨a, ao, ha⟩ := hx.place hlt
        obtain ⟨b, bo, hbb⟩ := hy.place hlt2
        simp only at ha hbb
        subst ha hbb
        have hcx := (hx.belowAll hb).file rfl hlt
        have hcy := (hy.belowAll hb).file rfl hlt2
        simp only at hcx hcy
        have hc := Lib.hid (fun n => eqFile_any xs[k] ys[k] (wr.drewN n) (Dat.belowAll ((hx.belowAll hb).elem (List.getElem_mem hlt)) (belowN (Below.refl _ _) n)) (Dat.belowAll ((hy.belowAll hb).elem (List.getElem_mem hlt2)) (belowN (Below.refl _ _) n)))
        go_wp2_with fail
        go_still_tail 8, (by kernel_rfl)
        go_wp2_with fail
        refine (hc.out 1).mono ?_
        rintro e w' ⟨⟨v, rfl, hv⟩, hb2⟩
        have HV := Lib.hid hv
        clear hv hcx hcy
        cases v with
        | true =>
          go_wp2_with fail
          go_roundw
          case rel =>
            refine ⟨k + 1, by omega, by go_num, ?_, (belowN hb 1).trans (hb2.mono hb.size)⟩
            exact take_succ_eq HR.out (by simpa using hlt) (by simpa using hlt2) (by simpa using HV.out.1 (by simp))
          case measure => simp [intOf]; omega
        | false =>
          go_wp2_with fail
          go_ret
          refine ⟨⟨_, rfl, ?_⟩, (belowN hb 1).trans (hb2.mono hb.size)⟩
          refine ⟨fun h => (by cases h), fun h => ?_⟩
          refine HV.out.2 ?_
          have e1 : (xs.map LFile.er)[k]? = (ys.map LFile.er)[k]? := by rw [h]
          simpa [hlt, hlt2] using e1
      · have HK := Lib.hid (show k = xs.length by omega)
        go_wp2_with fail
        go_ret
        refine ⟨⟨_, rfl, ⟨fun _ => ?_, fun _ => rfl⟩⟩, hb⟩
        have h1 := HR.out
        have h2 := HL.out
        rwa [HK.out, List.take_of_length_le (by simp), List.take_of_length_le (by simp [h2])] at h1
  · have hl1 : (((xs.length : Nat) : Int) != (ys.length : Nat)) = true := by simp; omega
    have HL := Lib.hid hl
    clear hl
    go_enter Tryz.func14, Tryz.ntmps14
    go_wp2_with fail
    go_ret
    refine ⟨⟨_, rfl, ⟨fun h => (by cases h), fun h => absurd (by simpa using congrArg List.length h) HL.out⟩⟩, Below.refl _ _⟩
end Go.Proofs.YtdidkfadiaafiaaGreatDoor

namespace Go.Proofs.YtdidkfadiaafiaaGreatDoor
open Go Go.RowKit

set_option maxRecDepth 100000 in
set_option maxHeartbeats 1000000 in
theorem szFileS_any (x : Loc LFile) (left : Int) (w : World) (hx : x.At w) (h0 : 0 ≤ left ∧ left ≤ 1048576) :
    Calls Tryz.prog 10 #[x.val, .int .i64 left] w (SzPost w left (bulkFiles x.xs)) := by
  obtain ⟨xa, xc, xs⟩ := x
  simp only [Loc.val]
  have h1 := hx.lenMax
  simp only at h1
  obtain ⟨h2, h3⟩ := h0
  by_cases hlt0 : left - (xs.length : Int) < 0
  · go_enter Tryz.func10, Tryz.ntmps10
    go_wp2_with fail
    go_ret
    exact ⟨⟨_, rfl, .inl (by decide)⟩, Below.refl _ _⟩
  · go_enter Tryz.func10, Tryz.ntmps10
    go_wp2_with fail
    go_loopw [1, 5] (fun l i wr => ∃ (k : Nat) (r : Int), k ≤ xs.length ∧ i = .int .i64 k ∧ l = .int .i64 r ∧ 0 ≤ r ∧ r ≤ 1048576 ∧ r = left - xs.length - (((xs.take k).map bulkFile).sum : Nat) ∧ Below w.heap.size w wr) (fun _ i _ => xs.length - (intOf i).toNat)
    case atStart => exact ⟨0, _, Nat.zero_le _, rfl, rfl, by omega, by omega, by simp, Below.refl _ _⟩
    case round =>
      obtain ⟨k, r, hk, rfl, rfl, hr0, hr1, hrr, hb⟩ := hrel
      have HR := Lib.hid hrr
      clear hrr
      by_cases hlt : k < xs.length
      · obtain ⟨a, ao, ha⟩ := hx.place hlt
        simp only at ha
        subst ha
        have hcs := (hx.belowAll hb).file rfl hlt
        simp only at hcs
        have hc := Lib.hid (szFile_any xs[k] r wr ((hx.belowAll hb).elem (List.getElem_mem hlt)) ⟨hr0, hr1⟩)
        go_wp2_with fail
        refine hc.out.mono ?_
        rintro e w' ⟨⟨q, rfl, hq⟩, hb2⟩
        have HQ := Lib.hid hq
        by_cases hq0 : q < 0
        · clear hq hcs
          go_wp2_with fail
          go_ret
          exact ⟨⟨_, rfl, .inl (by decide)⟩, hb.trans (hb2.mono hb.size)⟩
        · have hq1 : q ≤ 1048576 := by rcases hq with h | h <;> omega
          clear hq hcs
          go_wp2_with fail
          go_roundw
          case rel =>
            refine ⟨k + 1, q, by omega, by go_num, rfl, by omega, by omega, ?_, hb.trans (hb2.mono hb.size)⟩
            rcases HQ.out with h | h
            · omega
            · rw [h, HR.out, sum_take_succ bulkFile hlt]; omega
          case measure => simp [intOf]; omega
      · have HK := Lib.hid (show k = xs.length by omega)
        go_wp2_with fail
        go_ret
        refine ⟨⟨_, rfl, .inr ?_⟩, hb⟩
        rw [HR.out, HK.out, List.take_length]
        simp only [bulkFiles]
        omega
end Go.Proofs.YtdidkfadiaafiaaGreatDoor

namespace Go.Proofs.YtdidkfadiaafiaaGreatDoor
open Go Go.RowKit

set_option maxRecDepth 100000 in
set_option maxHeartbeats 1000000 in
theorem toFileS_any (x : Loc LFile) (w : World) (hx : x.At w) (hn : bulkFiles x.xs ≤ 1048576) :
    Calls Tryz.prog 12 #[x.val] w (NewPost w (fun ys : List LFile => ys.map LFile.er = x.xs.map LFile.er)) := by
  obtain ⟨xa, xc, xs⟩ := x
  simp only [Loc.val]
  simp only at hn
  obtain ⟨i0, hi, hz, hs, hb⟩ := info_parts file_info
  have HN := Lib.hid hn
  have h1 : xs.length ≤ 9223372036854775807 := by simp only [bulkFiles] at hn; omega
  have HX := Lib.hid hx
  have hm : i0.bytes * xs.length ≤ 281474976710656 := by rw [hb]; simp only [bulkFiles] at hn; omega
  have HS := Lib.hid hs
  have HM := Lib.hid hm
  have HI := Lib.hid hi
  have HZ := Lib.hid hz
  clear hn hb hs hm hi hz hx
  go_enter Tryz.func12, Tryz.ntmps12
  go_wp2_with (at_make; refine wpList_make_exact _ rfl _ _ _ rfl _ i0 _ Tryz.underlying24 HI.out HZ.out _ _ xs.length rfl rfl HM.out h1 ?_)
  have hS0 : Filling (α := LFile) w w.heap.size 58 xs.length [] (w.alloc (.cells (madeCells (Value.agg #[.string ⟨#[]⟩, .slice none 0 0]).cells (xs.length * i0.size)) 58)) :=
    Filling.start w _ _ _ (by rw [size_madeCells, HS.out]; rfl)
  have HF0 := Lib.hid hS0
  clear hS0
  go_loopw [4] (fun i wr => ∃ (k : Nat) (ys : List LFile), k ≤ xs.length ∧ i = .int .i64 k ∧ ys.length = k ∧ ys.map LFile.er = (xs.take k).map LFile.er ∧ Filling (α := LFile) w w.heap.size 58 xs.length ys wr) (fun i _ => xs.length - (intOf i).toNat)
  case atStart => exact ⟨0, [], Nat.zero_le _, rfl, rfl, by simp, HF0.out⟩
  case round =>
    obtain ⟨k, ys, hk, rfl, hlen, hys, hF⟩ := hrel
    have HF := Lib.hid hF
    have HL := Lib.hid hlen
    have HYS := Lib.hid hys
    clear hF hlen hys
    by_cases hlt : k < xs.length
    · obtain ⟨a, ao, ha⟩ := HX.out.place hlt
      simp only at ha
      subst ha
      have hc1 := (HX.out.belowAll HF.out.bel).file rfl hlt
      simp only at hc1
      have hcall := Lib.hid (toFile_any xs[k] wr ((HX.out.belowAll HF.out.bel).elem (List.getElem_mem hlt)) (by
        have h := HN.out
        have h2 : bulkFile xs[k] ≤ (xs.map bulkFile).sum := mem_le_sum _ (List.mem_map.2 ⟨_, List.getElem_mem hlt, rfl⟩)
        simp only [bulkFiles] at h; omega))
      go_wp2_with fail
      refine hcall.out.mono ?_
      rintro e w' ⟨y, rfl, hy, hyA, hyF, hb2⟩
      simp only [LFile.val]
      have HY := Lib.hid hy
      have HA := Lib.hid hyA
      have HFR := Lib.hid hyF
      have HB2 := Lib.hid hb2
      clear hy hyA hyF hc1
      have hsl := fun j hj => HF.out.slot hb2 (by rw [HL.out]; exact hlt) (j := j) hj
      simp only [HL.out] at hsl
      have HSL := Lib.hid hsl
      clear hsl hb2
      obtain ⟨⟨u0, s0⟩, z0⟩ := HSL.out 0 (by decide)
      obtain ⟨⟨u1, s1⟩, z1⟩ := HSL.out 1 (by decide)
      simp only [Dat.k, Nat.add_zero] at s0 z0 s1 z1
      go_wp2_with fail
      go_roundw
      case rel =>
        refine ⟨k + 1, ys ++ [y], by omega, by go_num, by simp [HL.out], ?_, ?_⟩
        · rw [List.map_append, HYS.out, List.take_succ_eq_append_getElem hlt, List.map_append]
          simp [HY.out]
        · have := HF.out.step HB2.out (by rw [HL.out]; exact hlt) (y := y) HA.out HFR.out
          rw [HL.out] at this
          exact this
      case measure => simp [intOf]; omega
    · have hkk : k = xs.length := by omega
      subst hkk
      go_wp2_with fail
      go_ret
      have hd := HF.out.done HL.out (by simp only [maxLen]; exact h1)
      refine ⟨⟨some ⟨w.heap.size, 0, none⟩, xs.length, ys⟩, ?_, ?_, hd.1, hd.2, HF.out.bel⟩
      · simp only [Loc.val, HL.out]; rfl
      · show ys.map LFile.er = xs.map LFile.er
        rw [HYS.out, List.take_length]
end Go.Proofs.YtdidkfadiaafiaaGreatDoor
