/- LogFree, the program's and the reference's. -/
import Derived.Test.YtpgdelfdaalhbaaDoorLogCut3
import Derived.Deep.LoopGhost
namespace Go.Proofs.YtpgdelfdaalhbaaDoor
open Go Go.RowKit

/-- How many segments are freed. -/
def freeN (f n : Int) (len : Nat) : Nat := min (len / 5) ((n - f).toNat / 5)
theorem freeN_lt {f n : Int} {len : Nat} (j : Nat) : j < freeN f n len ↔ (5 * j + 5 ≤ len ∧ f + 5 * j + 5 ≤ n) := by unfold freeN; omega

/-- The rest of a slice's records behind five. -/
theorem drop5 {w : World} {b o : Nat} {cap : Nat} {xs : List LRec} (h : Loc.At w (⟨some ⟨b, o, none⟩, cap, xs⟩ : Loc LRec)) (h5 : 5 ≤ xs.length) :
    Loc.At w (⟨some ⟨b, o + 25, none⟩, cap - 5, xs.drop 5⟩ : Loc LRec) ∧ List.Sublist (Loc.fp (⟨some ⟨b, o + 25, none⟩, cap - 5, xs.drop 5⟩ : Loc LRec)) (Loc.fp (⟨some ⟨b, o, none⟩, cap, xs⟩ : Loc LRec)) := by
  refine ⟨drop_At h rfl h5, ?_⟩
  unfold Loc.fp
  refine List.Sublist.append ?_ ?_
  · unfold Loc.blk
    simp only
    by_cases h2 : xs.drop 5 = []
    · simp [h2]
    · have h3 : xs ≠ [] := by intro h4; subst h4; simp at h5
      simp only [if_neg h2, if_neg h3]; exact List.Sublist.refl _
  · conv => rhs; rw [← List.take_append_drop 5 xs, List.flatMap_append]
    exact List.sublist_append_right _ _

set_option maxRecDepth 100000 in
set_option maxHeartbeats 2000000 in
theorem l12Free_any (x : LLog) (n : Int) (w : World) (hx : x.At w) (hf : 0 ≤ x.from_ ∧ x.from_ ≤ 5000) (hn : 0 ≤ n ∧ n ≤ 9223372036854775807) (hl : x.recs.xs.length ≤ 1048576) :
    Calls Tryd.prog 59 #[x.val, .int .i64 n] w fun e w' => ∃ y : LLog, e = .returned y.val ∧ y.er = ⟨x.from_ + 5 * (freeN x.from_ n x.recs.xs.length : Nat), (x.recs.xs.map LRec.er).drop (5 * freeN x.from_ n x.recs.xs.length)⟩ ∧ y.At w' ∧ y.recs.fp.Sublist x.recs.fp ∧ Below w.heap.size w w' := by
  obtain ⟨xf, xa, xc, xs⟩ := x
  have h1 := Loc.At.lenMax hx
  have h3 := Loc.At.capMax hx
  simp only at h1 hf hl
  simp only [maxLen] at h3
  simp only [LLog.val, Loc.val]
  have HM := Lib.hid (fun j => freeN_lt (f := xf) (n := n) (len := xs.length) j)
  generalize freeN xf n xs.length = m at *
  have hB := ((Below.refl w.heap.size w).alloc (Nat.le_refl _) (Obj.cells #[.int .i64 xf, .slice xa xs.length xc] 29)).alloc (by simp) (Obj.cells #[.int .i64 0, .slice none 0 0] 29)
  have b2 : Below (w.alloc (Obj.cells #[.int .i64 xf, .slice xa xs.length xc] 29)).heap.size (w.alloc (Obj.cells #[.int .i64 xf, .slice xa xs.length xc] 29)) ((w.alloc (Obj.cells #[.int .i64 xf, .slice xa xs.length xc] 29)).alloc (Obj.cells #[.int .i64 0, .slice none 0 0] 29)) := (Below.refl _ _).alloc (Nat.le_refl _) _
  have HX := Lib.hid (show Loc.At _ (⟨xa, xc, xs⟩ : Loc LRec) from Loc.At.belowAll hx hB)
  have BX := Lib.hid ((Boxed.new w #[.int .i64 xf, .slice xa xs.length xc] 29).keep b2)
  have HRX := Lib.hid ((b2.block w.heap.size (by simp)).trans (heap_alloc_new w (Obj.cells #[.int .i64 xf, .slice xa xs.length xc] 29)))
  have BP := Lib.hid (Boxed.new (w.alloc (Obj.cells #[.int .i64 xf, .slice xa xs.length xc] 29)) #[.int .i64 0, .slice none 0 0] 29)
  have HRP := Lib.hid (heap_alloc_new (w.alloc (Obj.cells #[.int .i64 xf, .slice xa xs.length xc] 29)) (Obj.cells #[.int .i64 0, .slice none 0 0] 29))
  have HZ1 : (w.alloc (Obj.cells #[.int .i64 xf, .slice xa xs.length xc] 29)).heap.size = w.heap.size + 1 := by simp
  rw [HZ1] at BP HRP
  have HLT := Lib.hid (Loc.lt_of_At hx)
  have HB := Lib.hid hB
  have HF := Lib.hid hf
  have HN := Lib.hid hn
  obtain ⟨hf1, hf2⟩ := hf
  obtain ⟨hn1, hn2⟩ := hn
  clear hB b2 HZ1 hx
  go_enter Tryd.func59, Tryd.ntmps59
  go_wp2_with fail
  generalize (w.alloc (Obj.cells #[.int .i64 xf, .slice xa xs.length xc] 29)).alloc (Obj.cells #[.int .i64 0, .slice none 0 0] 29) = w0 at *
  go_loopg [] m (fun k wr => ∃ (j : Nat) (y : Loc LRec), k = m - j ∧ j ≤ m ∧ Loc.At wr y ∧ y.xs = xs.drop (5 * j) ∧ List.Sublist y.fp (⟨xa, xc, xs⟩ : Loc LRec).fp ∧ Below w.heap.size w wr ∧
    wr.cell? ⟨w.heap.size, 0, none⟩ = some (.int .i64 (xf + 5 * j)) ∧ wr.cell? ⟨w.heap.size, 1, none⟩ = some y.val ∧ wr.frozen? ⟨w.heap.size, 0, none⟩ = false ∧ wr.frozen? ⟨w.heap.size, 1, none⟩ = false ∧
    wr.cell? ⟨w.heap.size + 1, 0, none⟩ = some (.int .i64 0) ∧ wr.cell? ⟨w.heap.size + 1, 1, none⟩ = some (.slice none 0 0) ∧ wr.frozen? ⟨w.heap.size + 1, 0, none⟩ = false ∧ wr.frozen? ⟨w.heap.size + 1, 1, none⟩ = false)
  case atStart =>
    refine ⟨0, ⟨xa, xc, xs⟩, rfl, Nat.zero_le _, HX.out, rfl, List.Sublist.refl _, HB.out, ?_, BX.out.2 1 _ rfl, frozen_of_row _ _ 0 _ _ HRX.out, frozen_of_row _ _ 1 _ _ HRX.out, BP.out.2 0 _ rfl, BP.out.2 1 _ rfl, frozen_of_row _ _ 0 _ _ HRP.out, frozen_of_row _ _ 1 _ _ HRP.out⟩
    have := BX.out.2 0 _ rfl
    simpa using this
  case round =>
    obtain ⟨j, ⟨ya, yc, ys⟩, hk, hj, hy, hys, hsub, hb, c0, c1, z0, z1, p0, p1, q0, q1⟩ := hrel
    simp only [Loc.val] at c1 hys
    have HY := Lib.hid hy
    have HYS := Lib.hid hys
    have HSUB := Lib.hid hsub
    have HBR := Lib.hid hb
    have HK := Lib.hid hk
    have hyl : ys.length = xs.length - 5 * j := by rw [hys, List.length_drop]
    have hmj := HM.out j
    have hy1 := hy.lenMax
    have hy2 := hy.lenCap
    have hy3 := hy.capMax
    simp only [maxLen] at hy1 hy2 hy3
    have HYL := Lib.hid hyl
    by_cases hjm : j < m
    · obtain ⟨g1, g2⟩ := hmj.1 hjm
      have h5 : 5 ≤ ys.length := by omega
      obtain ⟨b, o, ha⟩ := HY.out.place (show 0 < ys.length by omega)
      simp only at ha
      subst ha
      have HD := Lib.hid (drop5 HY.out h5)
      have d1 : decide (5 ≤ (ys.length : Int)) = true := decide_eq_true (by omega)
      have d2 : decide (xf + 5 * (j : Int) + 5 ≤ n) = true := decide_eq_true (by omega)
      clear hy hys hsub hb hk hmj hyl
      by_cases hc5 : yc = 5
      · have HC5 := Lib.hid hc5
        have HL5 := Lib.hid (show ys.length = 5 by omega)
        subst hc5
        have HD0 := Lib.hid (show ys.drop 5 = [] from List.drop_of_length_le (by rw [HL5.out]; exact Nat.le_refl _))
        go_wp2_with fail
        go_roundg (m - (j + 1))
        case measure => have := HK.out; omega
        case rel =>
          refine ⟨j + 1, ⟨some ⟨b, o, none⟩, 0, []⟩, by omega, by omega, ⟨Nat.le_refl _, Nat.zero_le _, by simp, by simp, by simp⟩, by rw [Nat.mul_succ, ← List.drop_drop, ← HYS.out, HD0.out], by simp [Loc.fp, Loc.blk], (HBR.out.setCell (by simp) _).setCell (by simp) _, ?_, ?_, ?_, ?_, ?_, ?_, ?_, ?_⟩
          · go_simp
            omega
          · go_simp
            simp [Loc.val, HL5.out]
          all_goals go_simp
      · have hcc : ¬ ((yc : Int) = 5) := by omega
        go_wp2_with fail
        go_roundg (m - (j + 1))
        case measure => have := HK.out; omega
        case rel =>
          refine ⟨j + 1, ⟨some ⟨b, o + 25, none⟩, yc - 5, ys.drop 5⟩, by omega, by omega, ?_, by rw [HYS.out, List.drop_drop, Nat.mul_succ], HD.out.2.trans HSUB.out, (HBR.out.setCell (by simp) _).setCell (by simp) _, ?_, ?_, ?_, ?_, ?_, ?_, ?_, ?_⟩
          · refine Loc.keep_At HD.out.1 fun c hc => ?_
            have h1 := HLT.out c (HSUB.out.subset (HD.out.2.subset hc))
            rw [Below.heap_setCell _ _ _ _ (by simp only; omega), Below.heap_setCell _ _ _ _ (by simp only; omega)]
          · go_simp
            omega
          · go_simp
            simp only [Loc.val, List.length_drop]
          all_goals go_simp
    · obtain rfl : j = m := by omega
      have hgt : ¬ (5 ≤ ys.length ∧ xf + 5 * (j : Int) + 5 ≤ n) := fun ⟨h1, h2⟩ => hjm (hmj.2 ⟨by omega, h2⟩)
      have HEND := Lib.hid hgt
      clear hy hys hsub hb hk hmj hgt
      by_cases h5 : 5 ≤ ys.length
      · have d1 : decide (5 ≤ (ys.length : Int)) = true := decide_eq_true (by omega)
        have hjl : 5 * j ≤ 1048576 := by omega
        clear hyl
        have d2 : decide (xf + 5 * (j : Int) + 5 ≤ n) = false := decide_eq_false (fun h => HEND.out ⟨h5, h⟩)
        go_wp2_with fail
        refine bodyPost_ret (v := .agg #[.int .i64 (xf + 5 * (j : Int)), .slice ya ys.length yc]) ?_ rfl ⟨⟨xf + 5 * (j : Int), ⟨ya, yc, ys⟩⟩, rfl, ?_, ?_, HSUB.out, ?_⟩
        · simp only [results, Tryd.results59]
          go_simp
        · simp only [LLog.er, HYS.out, List.map_drop]
        · refine Loc.keep_At HY.out fun c hc => ?_
          have h1 := HLT.out c (HSUB.out.subset hc)
          rw [Below.heap_setCell _ _ _ _ (by simp only; omega), Below.heap_setCell _ _ _ _ (by simp only; omega)]
        · exact (HBR.out.setCell (by simp) _).setCell (by simp) _
      · have d1 : decide (5 ≤ (ys.length : Int)) = false := decide_eq_false (by omega)
        clear hyl
        go_wp2_with fail
        refine bodyPost_ret (v := .agg #[.int .i64 (xf + 5 * (j : Int)), .slice ya ys.length yc]) ?_ rfl ⟨⟨xf + 5 * (j : Int), ⟨ya, yc, ys⟩⟩, rfl, ?_, ?_, HSUB.out, ?_⟩
        · simp only [results, Tryd.results59]
          go_simp
        · simp only [LLog.er, HYS.out, List.map_drop]
        · refine Loc.keep_At HY.out fun c hc => ?_
          have h1 := HLT.out c (HSUB.out.subset hc)
          rw [Below.heap_setCell _ _ _ _ (by simp only; omega), Below.heap_setCell _ _ _ _ (by simp only; omega)]
        · exact (HBR.out.setCell (by simp) _).setCell (by simp) _
end Go.Proofs.YtpgdelfdaalhbaaDoor
