/- The laws' own copies of records and logs: toRec, toRecS, toLog. -/
import Derived.Test.YtpgdelfdaalhbaaDoorTo
import Derived.Test.YtpgdelfdaalhbaaDoorEqR
namespace Go.Proofs.YtpgdelfdaalhbaaDoor
open Go Go.RowKit

theorem rec_info : (Tryd.prog.info? 71).map (fun i => (i.zero, i.size, i.bytes)) = some (some (.agg #[.int .i64 0, .string ⟨#[]⟩, .slice none 0 0, .int .i64 0, .int .i64 0]), 5, 64) := by kernel_rfl

set_option maxRecDepth 100000 in
set_option maxHeartbeats 1000000 in
theorem toRec_any (x : LRec) (w : World) (hx : Dat.At w x) (hn : bulkRec x ≤ 1048576) :
    Calls Tryd.prog 56 #[x.val] w fun e w' => ∃ y : LRec, e = .returned y.val ∧ y.er = x.er ∧ Dat.At w' y ∧ Fr w.heap.size w' (Dat.fp y) ∧ Below w.heap.size w w' := by
  obtain ⟨xk, xn, xs, xm, xq⟩ := x
  simp only [LRec.val]
  have hB := (((Below.refl w.heap.size w).alloc (Nat.le_refl _) (Obj.cells #[.int .i64 xk, .string xn, xs.val, .int .i64 xm, .int .i64 xq] 81)).alloc (by simp) (Obj.cells #[.int .i64 0, .string ⟨#[]⟩, .slice none 0 0, .int .i64 0, .int .i64 0] 71)).alloc (by simp; omega) (Obj.cells #[.int .i64 xk, .string ⟨#[]⟩, .slice none 0 0, .int .i64 0, .int .i64 0] 71)
  have hc := Lib.hid (toFile_any ⟨xn, xs⟩ _ (Dat.belowAll (α := LFile) (x := ⟨xn, xs⟩) hx hB) hn)
  simp only [LFile.val] at hc
  have HB := Lib.hid hB
  have HXN := Lib.hid hx.2
  clear hB hn
  go_enter Tryd.func56, Tryd.ntmps56
  go_wp2_with fail
  refine hc.out.mono ?_
  rintro e w' ⟨⟨yn, ⟨ya, yc, ys⟩⟩, rfl, hy, hyA, hyF, hb⟩
  simp only [LFile.val, Loc.val]
  have HY := Lib.hid hy
  have HA := Lib.hid hyA
  have HFR := Lib.hid hyF
  have HB2 := Lib.hid hb
  clear hy hyA hyF
  have c3 : w'.cell? ⟨w.heap.size, 3, none⟩ = some (.int .i64 xm) := by rw [hb.cell (by first | (simp; done) | (simp; omega))]; go_simp
  have c4 : w'.cell? ⟨w.heap.size, 4, none⟩ = some (.int .i64 xq) := by rw [hb.cell (by first | (simp; done) | (simp; omega))]; go_simp
  have d0 : w'.cell? ⟨w.heap.size + 1, 0, none⟩ = some (.int .i64 0) := by rw [hb.cell (by first | (simp; done) | (simp; omega))]; go_simp
  have d1 : w'.cell? ⟨w.heap.size + 1, 1, none⟩ = some (.string ⟨#[]⟩) := by rw [hb.cell (by first | (simp; done) | (simp; omega))]; go_simp
  have d2 : w'.cell? ⟨w.heap.size + 1, 2, none⟩ = some (.slice none 0 0) := by rw [hb.cell (by first | (simp; done) | (simp; omega))]; go_simp
  have d3 : w'.cell? ⟨w.heap.size + 1, 3, none⟩ = some (.int .i64 0) := by rw [hb.cell (by first | (simp; done) | (simp; omega))]; go_simp
  have d4 : w'.cell? ⟨w.heap.size + 1, 4, none⟩ = some (.int .i64 0) := by rw [hb.cell (by first | (simp; done) | (simp; omega))]; go_simp
  have o0 : w'.cell? ⟨w.heap.size + 1 + 1, 0, none⟩ = some (.int .i64 xk) := by rw [hb.cell (by simp)]; go_simp
  have o1 : w'.cell? ⟨w.heap.size + 1 + 1, 1, none⟩ = some (.string ⟨#[]⟩) := by rw [hb.cell (by simp)]; go_simp
  have o2 : w'.cell? ⟨w.heap.size + 1 + 1, 2, none⟩ = some (.slice none 0 0) := by rw [hb.cell (by simp)]; go_simp
  have o3 : w'.cell? ⟨w.heap.size + 1 + 1, 3, none⟩ = some (.int .i64 0) := by rw [hb.cell (by simp)]; go_simp
  have o4 : w'.cell? ⟨w.heap.size + 1 + 1, 4, none⟩ = some (.int .i64 0) := by rw [hb.cell (by simp)]; go_simp
  have g0 : ∀ j, w'.frozen? ⟨w.heap.size + 1, j, none⟩ = false := fun j => by rw [hb.frozen (by first | (simp; done) | (simp; omega))]; go_simp
  have g1 : ∀ j, w'.frozen? ⟨w.heap.size + 1 + 1, j, none⟩ = false := fun j => by rw [hb.frozen (by simp)]; go_simp
  clear hb
  go_wp2_with fail
  have hk : ∀ (W : World) (a0 : Addr) (v0 : Value) (b : Nat), b ≠ a0.block → (W.setCell a0 v0).heap[b]? = W.heap[b]? := fun W a0 v0 b h => Below.heap_setCell _ _ _ _ h
  have HK := Lib.hid hk
  clear hk
  refine bodyPost_ret (v := .agg #[.int .i64 xk, .string yn, .slice ya ys.length yc, .int .i64 xm, .int .i64 xq]) ?_ rfl ⟨⟨xk, yn, ⟨ya, yc, ys⟩, xm, xq⟩, rfl, ?_, ?_, ?_, ?_⟩
  · simp only [results, Tryd.results56]
    go_simp
  · have h := HY.out
    simp only [LFile.er, File.mk.injEq] at h
    simp only [LRec.er, h.1, h.2]
  · refine ⟨Loc.keep_At HA.out.1 fun b hb => ?_, HA.out.2⟩
    have h := HFR.out.ge b hb
    simp at h
    repeat' (refine (HK.out _ _ _ _ (by simp; omega)).trans ?_)
    rfl
  · refine (HFR.out.mono (by simp; omega)).keep fun b hb => ?_
    have h := HFR.out.ge b hb
    simp at h
    repeat' (refine (HK.out _ _ _ _ (by simp; omega)).trans ?_)
    rfl
  · refine (HB.out.trans (HB2.out.mono (by simp; omega))).trans ?_
    repeat' (refine Below.setCell ?_ (by first | (simp; done) | (simp; omega)) _)
    exact Below.refl _ _

set_option maxRecDepth 100000 in
set_option maxHeartbeats 1000000 in
theorem toRecS_any (x : Loc LRec) (w : World) (hx : x.At w) (hn : bulkRecs x.xs ≤ 1048576) :
    Calls Tryd.prog 25 #[x.val] w (NewPost w (fun ys : List LRec => ys.map LRec.er = x.xs.map LRec.er)) := by
  obtain ⟨xa, xc, xs⟩ := x
  simp only [Loc.val]
  simp only at hn
  obtain ⟨i0, hi, hz, hs, hb⟩ := info_parts rec_info
  have HN := Lib.hid hn
  have h1 : xs.length ≤ 9223372036854775807 := by simp only [bulkRecs] at hn; omega
  have HX := Lib.hid hx
  have hm : i0.bytes * xs.length ≤ 281474976710656 := by rw [hb]; simp only [bulkRecs] at hn; omega
  have HS := Lib.hid hs
  have HM := Lib.hid hm
  have HI := Lib.hid hi
  have HZ := Lib.hid hz
  clear hn hb hs hm hi hz hx
  go_enter Tryd.func25, Tryd.ntmps25
  go_wp2_with (at_make; refine wpList_make_exact _ rfl _ _ _ rfl _ i0 _ Tryd.underlying26 HI.out HZ.out _ _ xs.length rfl rfl HM.out h1 ?_)
  have hS0 : Filling (α := LRec) w w.heap.size 71 xs.length [] (w.alloc (.cells (madeCells (Value.agg #[.int .i64 0, .string ⟨#[]⟩, .slice none 0 0, .int .i64 0, .int .i64 0]).cells (xs.length * i0.size)) 71)) :=
    Filling.start w _ _ _ (by rw [size_madeCells, HS.out]; rfl)
  have HF0 := Lib.hid hS0
  clear hS0
  go_loopw [4] (fun i wr => ∃ (k : Nat) (ys : List LRec), k ≤ xs.length ∧ i = .int .i64 k ∧ ys.length = k ∧ ys.map LRec.er = (xs.take k).map LRec.er ∧ Filling (α := LRec) w w.heap.size 71 xs.length ys wr) (fun i _ => xs.length - (intOf i).toNat)
  case atStart => exact ⟨0, [], Nat.zero_le _, rfl, rfl, by simp, HF0.out⟩
  case round =>
    obtain ⟨k, ys, hk, rfl, hlen, hys, hF⟩ := hrel
    have HF := Lib.hid hF
    have HL := Lib.hid hlen
    have HYS := Lib.hid hys
    clear hF hlen hys
    by_cases hlt : k < xs.length
    · obtain ⟨a, ao, ha⟩ := HX.out.place hlt
      simp only at ha
      subst ha
      have hc1 := (HX.out.belowAll HF.out.bel).rec_ rfl hlt
      simp only at hc1
      have hcall := Lib.hid (toRec_any xs[k] wr ((HX.out.belowAll HF.out.bel).elem (List.getElem_mem hlt)) (by
        have h := HN.out
        have h2 : bulkRec xs[k] ≤ (xs.map bulkRec).sum := mem_le_sum _ (List.mem_map.2 ⟨_, List.getElem_mem hlt, rfl⟩)
        simp only [bulkRecs] at h; omega))
      go_wp2_with fail
      refine hcall.out.mono ?_
      rintro e w' ⟨y, rfl, hy, hyA, hyF, hb2⟩
      simp only [LRec.val]
      have HY := Lib.hid hy
      have HA := Lib.hid hyA
      have HFR := Lib.hid hyF
      have HB2 := Lib.hid hb2
      clear hy hyA hyF hc1
      have hsl := fun j hj => HF.out.slot hb2 (by rw [HL.out]; exact hlt) (j := j) hj
      simp only [HL.out] at hsl
      have HSL := Lib.hid hsl
      clear hsl hb2
      obtain ⟨⟨u0, s0⟩, z0⟩ := HSL.out 0 (by decide)
      obtain ⟨⟨u1, s1⟩, z1⟩ := HSL.out 1 (by decide)
      obtain ⟨⟨u2, s2⟩, z2⟩ := HSL.out 2 (by decide)
      obtain ⟨⟨u3, s3⟩, z3⟩ := HSL.out 3 (by decide)
      obtain ⟨⟨u4, s4⟩, z4⟩ := HSL.out 4 (by decide)
      simp only [Dat.k, Nat.add_zero] at s0 z0 s1 z1 s2 z2 s3 z3 s4 z4
      go_wp2_with fail
      go_roundw
      case rel =>
        refine ⟨k + 1, ys ++ [y], by omega, by go_num, by simp [HL.out], ?_, ?_⟩
        · rw [List.map_append, HYS.out, List.take_succ_eq_append_getElem hlt, List.map_append]
          simp [HY.out]
        · have := HF.out.step HB2.out (by rw [HL.out]; exact hlt) (y := y) HA.out HFR.out
          rw [HL.out] at this
          exact this
      case measure => simp [intOf]; omega
    · have hkk : k = xs.length := by omega
      subst hkk
      go_wp2_with fail
      go_ret
      have hd := HF.out.done HL.out (by simp only [maxLen]; exact h1)
      refine ⟨⟨some ⟨w.heap.size, 0, none⟩, xs.length, ys⟩, ?_, ?_, hd.1, hd.2, HF.out.bel⟩
      · simp only [Loc.val, HL.out]; rfl
      · show ys.map LRec.er = xs.map LRec.er
        rw [HYS.out, List.take_length]

set_option maxRecDepth 100000 in
set_option maxHeartbeats 1000000 in
theorem toLog_any (x : LLog) (w : World) (hx : x.At w) (hn : bulkLog x ≤ 1048576) :
    Calls Tryd.prog 13 #[x.val] w fun e w' => ∃ y : LLog, e = .returned y.val ∧ y.er = x.er ∧ y.At w' ∧ Fr w.heap.size w' y.recs.fp ∧ Below w.heap.size w w' := by
  obtain ⟨xf, xs⟩ := x
  simp only [LLog.val]
  have hB := (((Below.refl w.heap.size w).alloc (Nat.le_refl _) (Obj.cells #[.int .i64 xf, xs.val] 24)).alloc (by simp) (Obj.cells #[.int .i64 0, .slice none 0 0] 29)).alloc (by simp; omega) (Obj.cells #[.int .i64 xf, .slice none 0 0] 29)
  have hc := Lib.hid (toRecS_any xs _ (Loc.At.belowAll hx hB) hn)
  have HB := Lib.hid hB
  clear hB hn
  go_enter Tryd.func13, Tryd.ntmps13
  go_wp2_with fail
  refine hc.out.mono ?_
  rintro e w' ⟨⟨ya, yc, ys⟩, rfl, hy, hyA, hyF, hb⟩
  simp only [Loc.val]
  have HY := Lib.hid hy
  have HA := Lib.hid hyA
  have HFR := Lib.hid hyF
  have HB2 := Lib.hid hb
  clear hy hyA hyF
  have d0 : w'.cell? ⟨w.heap.size + 1, 0, none⟩ = some (.int .i64 0) := by rw [hb.cell (by first | (simp; done) | (simp; omega))]; go_simp
  have d1 : w'.cell? ⟨w.heap.size + 1, 1, none⟩ = some (.slice none 0 0) := by rw [hb.cell (by first | (simp; done) | (simp; omega))]; go_simp
  have o0 : w'.cell? ⟨w.heap.size + 1 + 1, 0, none⟩ = some (.int .i64 xf) := by rw [hb.cell (by simp)]; go_simp
  have o1 : w'.cell? ⟨w.heap.size + 1 + 1, 1, none⟩ = some (.slice none 0 0) := by rw [hb.cell (by simp)]; go_simp
  have g0 : ∀ j, w'.frozen? ⟨w.heap.size + 1, j, none⟩ = false := fun j => by rw [hb.frozen (by first | (simp; done) | (simp; omega))]; go_simp
  have g1 : ∀ j, w'.frozen? ⟨w.heap.size + 1 + 1, j, none⟩ = false := fun j => by rw [hb.frozen (by simp)]; go_simp
  clear hb
  go_wp2_with fail
  have hk : ∀ (W : World) (a0 : Addr) (v0 : Value) (b : Nat), b ≠ a0.block → (W.setCell a0 v0).heap[b]? = W.heap[b]? := fun W a0 v0 b h => Below.heap_setCell _ _ _ _ h
  have HK := Lib.hid hk
  clear hk
  refine bodyPost_ret (v := .agg #[.int .i64 xf, .slice ya ys.length yc]) ?_ rfl ⟨⟨xf, ⟨ya, yc, ys⟩⟩, rfl, ?_, ?_, ?_, ?_⟩
  · simp only [results, Tryd.results13]
    go_simp
  · simp only [LLog.er, HY.out]
  · refine Loc.keep_At HA.out fun b hb => ?_
    have h := HFR.out.ge b hb
    simp at h
    repeat' (refine (HK.out _ _ _ _ (by simp; omega)).trans ?_)
    rfl
  · refine (HFR.out.mono (by simp; omega)).keep fun b hb => ?_
    have h := HFR.out.ge b hb
    simp at h
    repeat' (refine (HK.out _ _ _ _ (by simp; omega)).trans ?_)
    rfl
  · refine (HB.out.trans (HB2.out.mono (by simp; omega))).trans ?_
    repeat' (refine Below.setCell ?_ (by first | (simp; done) | (simp; omega)) _)
    exact Below.refl _ _
end Go.Proofs.YtpgdelfdaalhbaaDoor
