/- The laws' own copies: toFileS. -/
import Derived.Test.YtdidkfadiaafiaaGreatDoorTo
import Derived.Test.YtdidkfadiaafiaaGreatDoorSzF
import Derived.Test.YtdidkfadiaafiaaGreatDoorEqF
namespace Go.Proofs.YtdidkfadiaafiaaGreatDoor
open Go Go.RowKit

set_option maxRecDepth 100000 in
set_option maxHeartbeats 1000000 in
theorem toFileS_any (x : Loc LFile) (w : World) (hx : x.At w) (hn : bulkFiles x.xs ≤ 1048576) :
    Calls Tryz.prog 12 #[x.val] w (NewPost w (fun ys : List LFile => ys.map LFile.er = x.xs.map LFile.er)) := by
  obtain ⟨xa, xc, xs⟩ := x
  simp only [Loc.val]
  simp only at hn
  obtain ⟨i0, hi, hz, hs, hb⟩ := info_parts file_info
  have HN := Lib.hid hn
  have h1 : xs.length ≤ 9223372036854775807 := by simp only [bulkFiles] at hn; omega
  have HX := Lib.hid hx
  have hm : i0.bytes * xs.length ≤ 281474976710656 := by rw [hb]; simp only [bulkFiles] at hn; omega
  have HS := Lib.hid hs
  have HM := Lib.hid hm
  have HI := Lib.hid hi
  have HZ := Lib.hid hz
  clear hn hb hs hm hi hz hx
  go_enter Tryz.func12, Tryz.ntmps12
  go_wp2_with (at_make; refine wpList_make_exact _ rfl _ _ _ rfl _ i0 _ Tryz.underlying24 HI.out HZ.out _ _ xs.length rfl rfl HM.out h1 ?_)
  have hS0 : Filling (α := LFile) w w.heap.size 58 xs.length [] (w.alloc (.cells (madeCells (Value.agg #[.string ⟨#[]⟩, .slice none 0 0]).cells (xs.length * i0.size)) 58)) :=
    Filling.start w _ _ _ (by rw [size_madeCells, HS.out]; rfl)
  have HF0 := Lib.hid hS0
  clear hS0
  go_loopw [4] (fun i wr => ∃ (k : Nat) (ys : List LFile), k ≤ xs.length ∧ i = .int .i64 k ∧ ys.length = k ∧ ys.map LFile.er = (xs.take k).map LFile.er ∧ Filling (α := LFile) w w.heap.size 58 xs.length ys wr) (fun i _ => xs.length - (intOf i).toNat)
  case atStart => exact ⟨0, [], Nat.zero_le _, rfl, rfl, by simp, HF0.out⟩
  case round =>
    obtain ⟨k, ys, hk, rfl, hlen, hys, hF⟩ := hrel
    have HF := Lib.hid hF
    have HL := Lib.hid hlen
    have HYS := Lib.hid hys
    clear hF hlen hys
    by_cases hlt : k < xs.length
    · obtain ⟨a, ao, ha⟩ := HX.out.place hlt
      simp only at ha
      subst ha
      have hc1 := (HX.out.belowAll HF.out.bel).file rfl hlt
      simp only at hc1
      have hcall := Lib.hid (toFile_any xs[k] wr ((HX.out.belowAll HF.out.bel).elem (List.getElem_mem hlt)) (by
        have h := HN.out
        have h2 : bulkFile xs[k] ≤ (xs.map bulkFile).sum := mem_le_sum _ (List.mem_map.2 ⟨_, List.getElem_mem hlt, rfl⟩)
        simp only [bulkFiles] at h; omega))
      go_wp2_with fail
      refine hcall.out.mono ?_
      rintro e w' ⟨y, rfl, hy, hyA, hyF, hb2⟩
      simp only [LFile.val]
      have HY := Lib.hid hy
      have HA := Lib.hid hyA
      have HFR := Lib.hid hyF
      have HB2 := Lib.hid hb2
      clear hy hyA hyF hc1
      have hsl := fun j hj => HF.out.slot hb2 (by rw [HL.out]; exact hlt) (j := j) hj
      simp only [HL.out] at hsl
      have HSL := Lib.hid hsl
      clear hsl hb2
      obtain ⟨⟨u0, s0⟩, z0⟩ := HSL.out 0 (by decide)
      obtain ⟨⟨u1, s1⟩, z1⟩ := HSL.out 1 (by decide)
      simp only [Dat.k, Nat.add_zero] at s0 z0 s1 z1
      go_wp2_with fail
      go_roundw
      case rel =>
        refine ⟨k + 1, ys ++ [y], by omega, by go_num, by simp [HL.out], ?_, ?_⟩
        · rw [List.map_append, HYS.out, List.take_succ_eq_append_getElem hlt, List.map_append]
          simp [HY.out]
        · have := HF.out.step HB2.out (by rw [HL.out]; exact hlt) (y := y) HA.out HFR.out
          rw [HL.out] at this
          exact this
      case measure => simp [intOf]; omega
    · have hkk : k = xs.length := by omega
      subst hkk
      go_wp2_with fail
      go_ret
      have hd := HF.out.done HL.out (by simp only [maxLen]; exact h1)
      refine ⟨⟨some ⟨w.heap.size, 0, none⟩, xs.length, ys⟩, ?_, ?_, hd.1, hd.2, HF.out.bel⟩
      · simp only [Loc.val, HL.out]; rfl
      · show ys.map LFile.er = xs.map LFile.er
        rw [HYS.out, List.take_length]
end Go.Proofs.YtdidkfadiaafiaaGreatDoor
