/- LogFree, the program's and the reference's. LogFree of the program. LogFree, the program's and the reference's. -/
import Derived.Test.YtdbejmnfnbkndaaDoorLogCut
import Derived.Deep.LoopGhost
namespace Go.Proofs.YtdbejmnfnbkndaaDoor
open Go Go.RowKit

/-- How many segments are freed. -/
def freeN (f n : Int) (len : Nat) : Nat := min (len / 5) ((n - f).toNat / 5)
theorem freeN_lt {f n : Int} {len : Nat} (j : Nat) : j < freeN f n len ↔ (5 * j + 5 ≤ len ∧ f + 5 * j + 5 ≤ n) := by unfold freeN; omega

/-- The rest of a slice's records behind five. -/
theorem drop5 {w : World} {b o : Nat} {cap : Nat} {xs : List LRec} (h : Loc.At w (⟨some ⟨b, o, none⟩, cap, xs⟩ : Loc LRec)) (h5 : 5 ≤ xs.length) :
    Loc.At w (⟨some ⟨b, o + 25, none⟩, cap - 5, xs.drop 5⟩ : Loc LRec) ∧ List.Sublist (Loc.fp (⟨some ⟨b, o + 25, none⟩, cap - 5, xs.drop 5⟩ : Loc LRec)) (Loc.fp (⟨some ⟨b, o, none⟩, cap, xs⟩ : Loc LRec)) := by
  refine ⟨drop_At h rfl h5, ?_⟩
  unfold Loc.fp
  refine List.Sublist.append ?_ ?_
  · unfold Loc.blk
    simp only
    by_cases h2 : xs.drop 5 = []
    · simp [h2]
    · have h3 : xs ≠ [] := by intro h4; subst h4; simp at h5
      simp only [if_neg h2, if_neg h3]; exact List.Sublist.refl _
  · conv => rhs; rw [← List.take_append_drop 5 xs, List.flatMap_append]
    exact List.sublist_append_right _ _

set_option maxRecDepth 100000 in
set_option maxHeartbeats 2000000 in
theorem l12Free_any (x : LLog) (n : Int) (w : World) (hx : x.At w) (hf : 0 ≤ x.from_ ∧ x.from_ ≤ 5000) (hn : 0 ≤ n ∧ n ≤ 9223372036854775807) (hl : x.recs.xs.length ≤ 1048576) :
    Calls Tryd.prog 52 #[x.val, .int .i64 n] w fun e w' => ∃ y : LLog, e = .returned y.val ∧ y.er = ⟨x.from_ + 5 * (freeN x.from_ n x.recs.xs.length : Nat), (x.recs.xs.map LRec.er).drop (5 * freeN x.from_ n x.recs.xs.length)⟩ ∧ y.At w' ∧ y.recs.fp.Sublist x.recs.fp ∧ Below w.heap.size w w' := by
  obtain ⟨xf, xa, xc, xs⟩ := x
  have h1 := Loc.At.lenMax hx
  have h3 := Loc.At.capMax hx
  simp only at h1 hf hl
  simp only [maxLen] at h3
  simp only [LLog.val, Loc.val]
  have HM := Lib.hid (fun j => freeN_lt (f := xf) (n := n) (len := xs.length) j)
  generalize freeN xf n xs.length = m at *
  have hB := ((Below.refl w.heap.size w).alloc (Nat.le_refl _) (Obj.cells #[.int .i64 xf, .slice xa xs.length xc] 25)).alloc (by simp) (Obj.cells #[.int .i64 0, .slice none 0 0] 25)
  have b2 : Below (w.alloc (Obj.cells #[.int .i64 xf, .slice xa xs.length xc] 25)).heap.size (w.alloc (Obj.cells #[.int .i64 xf, .slice xa xs.length xc] 25)) ((w.alloc (Obj.cells #[.int .i64 xf, .slice xa xs.length xc] 25)).alloc (Obj.cells #[.int .i64 0, .slice none 0 0] 25)) := (Below.refl _ _).alloc (Nat.le_refl _) _
  have HX := Lib.hid (show Loc.At _ (⟨xa, xc, xs⟩ : Loc LRec) from Loc.At.belowAll hx hB)
  have BX := Lib.hid ((Boxed.new w #[.int .i64 xf, .slice xa xs.length xc] 25).keep b2)
  have HRX := Lib.hid ((b2.block w.heap.size (by simp)).trans (heap_alloc_new w (Obj.cells #[.int .i64 xf, .slice xa xs.length xc] 25)))
  have BP := Lib.hid (Boxed.new (w.alloc (Obj.cells #[.int .i64 xf, .slice xa xs.length xc] 25)) #[.int .i64 0, .slice none 0 0] 25)
  have HRP := Lib.hid (heap_alloc_new (w.alloc (Obj.cells #[.int .i64 xf, .slice xa xs.length xc] 25)) (Obj.cells #[.int .i64 0, .slice none 0 0] 25))
  have HZ1 : (w.alloc (Obj.cells #[.int .i64 xf, .slice xa xs.length xc] 25)).heap.size = w.heap.size + 1 := by simp
  rw [HZ1] at BP HRP
  have HLT := Lib.hid (Loc.lt_of_At hx)
  have HB := Lib.hid hB
  have HF := Lib.hid hf
  have HN := Lib.hid hn
  obtain ⟨hf1, hf2⟩ := hf
  obtain ⟨hn1, hn2⟩ := hn
  clear hB b2 HZ1 hx
  go_enter Tryd.func52, Tryd.ntmps52
  go_wp2_with fail
  generalize (w.alloc (Obj.cells #[.int .i64 xf, .slice xa xs.length xc] 25)).alloc (Obj.cells #[.int .i64 0, .slice none 0 0] 25) = w0 at *
  go_loopg [] m (fun k wr => ∃ (j : Nat) (y : Loc LRec), k = m - j ∧ j ≤ m ∧ Loc.At wr y ∧ y.xs = xs.drop (5 * j) ∧ List.Sublist y.fp (⟨xa, xc, xs⟩ : Loc LRec).fp ∧ Below w.heap.size w wr ∧
    wr.cell? ⟨w.heap.size, 0, none⟩ = some (.int .i64 (xf + 5 * j)) ∧ wr.cell? ⟨w.heap.size, 1, none⟩ = some y.val ∧ wr.frozen? ⟨w.heap.size, 0, none⟩ = false ∧ wr.frozen? ⟨w.heap.size, 1, none⟩ = false ∧
    wr.cell? ⟨w.heap.size + 1, 0, none⟩ = some (.int .i64 0) ∧ wr.cell? ⟨w.heap.size + 1, 1, none⟩ = some (.slice none 0 0) ∧ wr.frozen? ⟨w.heap.size + 1, 0, none⟩ = false ∧ wr.frozen? ⟨w.heap.size + 1, 1, none⟩ = false)
  case atStart =>
    refine ⟨0, ⟨xa, xc, xs⟩, rfl, Nat.zero_le _, HX.out, rfl, List.Sublist.refl _, HB.out, ?_, BX.out.2 1 _ rfl, frozen_of_row _ _ 0 _ _ HRX.out, frozen_of_row _ _ 1 _ _ HRX.out, BP.out.2 0 _ rfl, BP.out.2 1 _ rfl, frozen_of_row _ _ 0 _ _ HRP.out, frozen_of_row _ _ 1 _ _ HRP.out⟩
    have := BX.out.2 0 _ rfl
    simpa using this
  case round =>
    obtain ⟨j, ⟨ya, yc, ys⟩, hk, hj, hy, hys, hsub, hb, c0, c1, z0, z1, p0, p1, q0, q1⟩ := hrel
    simp only [Loc.val] at c1 hys
    have HY := Lib.hid hy
    have HYS := Lib.hid hys
    have HSUB := Lib.hid hsub
    have HBR := Lib.hid hb
    have HK := Lib.hid hk
    have hyl : ys.length = xs.length - 5 * j := by rw [hys, List.length_drop]
    have hmj := HM.out j
    have hy1 := hy.lenMax
    have hy2 := hy.lenCap
    have hy3 := hy.capMax
    simp only [maxLen] at hy1 hy2 hy3
    have HYL := Lib.hid hyl
    by_cases hjm : j < m
    · obtain ⟨g1, g2⟩ := hmj.1 hjm
      have h5 : 5 ≤ ys.length := by omega
      obtain ⟨b, o, ha⟩ := HY.out.place (show 0 < ys.length by omega)
      simp only at ha
      subst ha
      have HD := Lib.hid (drop5 HY.out h5)
      have d1 : decide (5 ≤ (ys.length : Int)) = true := decide_eq_true (by omega)
      have d2 : decide (xf + 5 * (j : Int) + 5 ≤ n) = true := decide_eq_true (by omega)
      clear hy hys hsub hb hk hmj hyl
      by_cases hc5 : yc = 5
      · have HC5 := Lib.hid hc5
        have HL5 := Lib.hid (show ys.length = 5 by omega)
        subst hc5
        have HD0 := Lib.hid (show ys.drop 5 = [] from List.drop_of_length_le (by rw [HL5.out]; exact Nat.le_refl _))
        go_wp2_with fail
        go_roundg (m - (j + 1))
        case measure => have := HK.out; omega
        case rel =>
          refine ⟨j + 1, ⟨some ⟨b, o, none⟩, 0, []⟩, by omega, by omega, ⟨Nat.le_refl _, Nat.zero_le _, by simp, by simp, by simp⟩, by rw [Nat.mul_succ, ← List.drop_drop, ← HYS.out, HD0.out], by simp [Loc.fp, Loc.blk], (HBR.out.setCell (by simp) _).setCell (by simp) _, ?_, ?_, ?_, ?_, ?_, ?_, ?_, ?_⟩
          · go_simp
            omega
          · go_simp
            simp [Loc.val, HL5.out]
          all_goals go_simp
      · have hcc : ¬ ((yc : Int) = 5) := by omega
        go_wp2_with fail
        go_roundg (m - (j + 1))
        case measure => have := HK.out; omega
        case rel =>
          refine ⟨j + 1, ⟨some ⟨b, o + 25, none⟩, yc - 5, ys.drop 5⟩, by omega, by omega, ?_, by rw [HYS.out, List.drop_drop, Nat.mul_succ], HD.out.2.trans HSUB.out, (HBR.out.setCell (by simp) _).setCell (by simp) _, ?_, ?_, ?_, ?_, ?_, ?_, ?_, ?_⟩
          · refine Loc.keep_At HD.out.1 fun c hc => ?_
            have h1 := HLT.out c (HSUB.out.subset (HD.out.2.subset hc))
            rw [Below.heap_setCell _ _ _ _ (by simp only; omega), Below.heap_setCell _ _ _ _ (by simp only; omega)]
          · go_simp
            omega
          · go_simp
            simp only [Loc.val, List.length_drop]
          all_goals go_simp
    · obtain rfl : j = m := by omega
      have hgt : ¬ (5 ≤ ys.length ∧ xf + 5 * (j : Int) + 5 ≤ n) := fun ⟨h1, h2⟩ => hjm (hmj.2 ⟨by omega, h2⟩)
      have HEND := Lib.hid hgt
      clear hy hys hsub hb hk hmj hgt
      by_cases h5 : 5 ≤ ys.length
      · have d1 : decide (5 ≤ (ys.length : Int)) = true := decide_eq_true (by omega)
        have hjl : 5 * j ≤ 1048576 := by omega
        clear hyl
        have d2 : decide (xf + 5 * (j : Int) + 5 ≤ n) = false := decide_eq_false (fun h => HEND.out ⟨h5, h⟩)
        go_wp2_with fail
        refine bodyPost_ret (v := .agg #[.int .i64 (xf + 5 * (j : Int)), .slice ya ys.length yc]) ?_ rfl ⟨⟨xf + 5 * (j : Int), ⟨ya, yc, ys⟩⟩, rfl, ?_, ?_, HSUB.out, ?_⟩
        · simp only [results, Tryd.results52]
          go_simp
        · simp only [LLog.er, HYS.out, List.map_drop]
        · refine Loc.keep_At HY.out fun c hc => ?_
          have h1 := HLT.out c (HSUB.out.subset hc)
          rw [Below.heap_setCell _ _ _ _ (by simp only; omega), Below.heap_setCell _ _ _ _ (by simp only; omega)]
        · exact (HBR.out.setCell (by simp) _).setCell (by simp) _
      · have d1 : decide (5 ≤ (ys.length : Int)) = false := decide_eq_false (by omega)
        clear hyl
        go_wp2_with fail
        refine bodyPost_ret (v := .agg #[.int .i64 (xf + 5 * (j : Int)), .slice ya ys.length yc]) ?_ rfl ⟨⟨xf + 5 * (j : Int), ⟨ya, yc, ys⟩⟩, rfl, ?_, ?_, HSUB.out, ?_⟩
        · simp only [results, Tryd.results52]
          go_simp
        · simp only [LLog.er, HYS.out, List.map_drop]
        · refine Loc.keep_At HY.out fun c hc => ?_
          have h1 := HLT.out c (HSUB.out.subset hc)
          rw [Below.heap_setCell _ _ _ _ (by simp only; omega), Below.heap_setCell _ _ _ _ (by simp only; omega)]
        · exact (HBR.out.setCell (by simp) _).setCell (by simp) _
end Go.Proofs.YtdbejmnfnbkndaaDoor

namespace Go.Proofs.YtdbejmnfnbkndaaDoor
open Go Go.RowKit

set_option maxRecDepth 100000 in
set_option maxHeartbeats 4000000 in
theorem free_any (x : LLog) (n : Int) (w : World) (hx : x.At w) (hf : 0 ≤ x.from_ ∧ x.from_ ≤ 5000) (hn : 0 ≤ n ∧ n ≤ 9223372036854775807) (hl : x.recs.xs.length ≤ 1048576) (hk : recsK (x.recs.xs.map LRec.er)) :
    Calls Tryd.prog 51 #[x.val, .int .i64 n] w (LogNew w (fun l => l = ⟨x.from_ + 5 * (freeN x.from_ n x.recs.xs.length : Nat), (x.recs.xs.map LRec.er).drop (5 * freeN x.from_ n x.recs.xs.length)⟩)) := by
  obtain ⟨xf, xa, xc, xs⟩ := x
  simp only [LLog.val, Loc.val]
  simp only at hf hl hk
  have HM := Lib.hid (fun j => freeN_lt (f := xf) (n := n) (len := xs.length) j)
  generalize freeN xf n xs.length = m at *
  have hB := ((Below.refl w.heap.size w).alloc (Nat.le_refl _) (Obj.cells #[.int .i64 xf, .slice xa xs.length xc] 25)).alloc (by simp) (Obj.cells #[.int .i64 0, .slice none 0 0] 25)
  have b2 : Below (w.alloc (Obj.cells #[.int .i64 xf, .slice xa xs.length xc] 25)).heap.size (w.alloc (Obj.cells #[.int .i64 xf, .slice xa xs.length xc] 25)) ((w.alloc (Obj.cells #[.int .i64 xf, .slice xa xs.length xc] 25)).alloc (Obj.cells #[.int .i64 0, .slice none 0 0] 25)) := (Below.refl _ _).alloc (Nat.le_refl _) _
  have HCL := Lib.hid (copyLog_any ⟨xf, ⟨xa, xc, xs⟩⟩ _ (Loc.At.belowAll hx hB) hl hk)
  have BX := Lib.hid ((Boxed.new w #[.int .i64 xf, .slice xa xs.length xc] 25).keep b2)
  have BP := Lib.hid (Boxed.new (w.alloc (Obj.cells #[.int .i64 xf, .slice xa xs.length xc] 25)) #[.int .i64 0, .slice none 0 0] 25)
  have HRP := Lib.hid (heap_alloc_new (w.alloc (Obj.cells #[.int .i64 xf, .slice xa xs.length xc] 25)) (Obj.cells #[.int .i64 0, .slice none 0 0] 25))
  have HZ1 : (w.alloc (Obj.cells #[.int .i64 xf, .slice xa xs.length xc] 25)).heap.size = w.heap.size + 1 := by simp
  rw [HZ1] at BP HRP
  have HZ2 : Hid (((w.alloc (Obj.cells #[.int .i64 xf, .slice xa xs.length xc] 25)).alloc (Obj.cells #[.int .i64 0, .slice none 0 0] 25)).heap.size = w.heap.size + 2) := Lib.hid (by simp)
  have HB := Lib.hid hB
  have HL := Lib.hid hl
  simp only [LLog.val, Loc.val] at HCL
  obtain ⟨hf1, hf2⟩ := hf
  obtain ⟨hn1, hn2⟩ := hn
  clear hB b2 HZ1 hx hk
  go_enter Tryd.func51, Tryd.ntmps51
  go_wp2_with fail
  generalize (w.alloc (Obj.cells #[.int .i64 xf, .slice xa xs.length xc] 25)).alloc (Obj.cells #[.int .i64 0, .slice none 0 0] 25) = w0 at *
  have xc0 := BX.out.2 0 _ rfl
  have xc1 := BX.out.2 1 _ rfl
  go_wp2_with fail
  refine HCL.out.mono ?_
  rintro e w1 ⟨⟨cf, ⟨ca, cc, cs⟩⟩, rfl, hc, hcO, hcF, hb1⟩
  have hS1 : w.heap.size + 2 ≤ w1.heap.size := by have := hb1.size; have := HZ2.out; omega
  have HS1 := Lib.hid hS1
  have hcE : cs.map LRec.er = xs.map LRec.er := congrArg Log.recs hc
  obtain rfl : cf = xf := congrArg Log.from_ hc
  have HCE := Lib.hid hcE
  have hA1 := (Below.refl w1.heap.size w1).alloc (Nat.le_refl _) (Obj.cells #[.int .i64 cf, .slice ca cs.length cc] 25)
  have CA := Lib.hid (Loc.At.belowAll (Own.at_ hcO) hA1)
  have hcf := Own.fr hcO hcF (Nat.le_refl _)
  have CN := Lib.hid (show ∀ b ∈ (⟨ca, cc, cs⟩ : Loc LRec).fp, b ≠ w1.heap.size from fun b hb => Nat.ne_of_lt (hcf.lt b hb))
  have CF := Lib.hid ((hcf.belowAll hA1).mono (show w.heap.size + 2 ≤ w0.heap.size by have := HZ2.out; omega))
  have B1 := Lib.hid ((HB.out.trans (hb1.mono HB.out.size)).trans (hA1.mono (by omega)))
  have BP1 := Lib.hid ((BP.out.keep hb1).keep hA1)
  have HR1 := Lib.hid ((hA1.block (w.heap.size + 1) (by omega)).trans ((hb1.block _ BP.out.1).trans HRP.out))
  have BC := Lib.hid (Boxed.new w1 #[.int .i64 cf, .slice ca cs.length cc] 25)
  have HRC := Lib.hid (heap_alloc_new w1 (Obj.cells #[.int .i64 cf, .slice ca cs.length cc] 25))
  have SC := Lib.hid (show w1.heap.size < (w1.alloc (Obj.cells #[.int .i64 cf, .slice ca cs.length cc] 25)).heap.size by simp)
  clear hc hcE hcO hcF hcf hb1 hA1 HCL BX xc0 xc1 BP HRP HB
  simp only [LLog.val, Loc.val]
  go_wp2_with fail
  have hcl : cs.length ≤ 1048576 := by have := congrArg List.length HCE.out; simp only [List.length_map] at this; omega
  have HXL := Lib.hid (show cs.length = xs.length by have := congrArg List.length HCE.out; simpa using this)
  generalize w1.alloc (Obj.cells #[.int .i64 cf, .slice ca cs.length cc] 25) = wa at *
  go_loopg [] m (fun k wr => ∃ (j : Nat) (y : Loc LRec), k = m - j ∧ j ≤ m ∧ Loc.At wr y ∧ y.xs = cs.drop (5 * j) ∧ Fr (w.heap.size + 2) wr y.fp ∧ (∀ b ∈ y.fp, b ≠ w1.heap.size) ∧ Below w.heap.size w wr ∧ w1.heap.size < wr.heap.size ∧
    wr.cell? ⟨w1.heap.size, 0, none⟩ = some (.int .i64 (cf + 5 * j)) ∧ wr.cell? ⟨w1.heap.size, 1, none⟩ = some y.val ∧ wr.frozen? ⟨w1.heap.size, 0, none⟩ = false ∧ wr.frozen? ⟨w1.heap.size, 1, none⟩ = false ∧
    wr.cell? ⟨w.heap.size + 1, 0, none⟩ = some (.int .i64 0) ∧ wr.cell? ⟨w.heap.size + 1, 1, none⟩ = some (.slice none 0 0) ∧ wr.frozen? ⟨w.heap.size + 1, 0, none⟩ = false ∧ wr.frozen? ⟨w.heap.size + 1, 1, none⟩ = false)
  case atStart =>
    refine ⟨0, ⟨ca, cc, cs⟩, rfl, Nat.zero_le _, CA.out, rfl, CF.out, CN.out, B1.out, SC.out, ?_, BC.out.2 1 _ rfl, frozen_of_row _ _ 0 _ _ HRC.out, frozen_of_row _ _ 1 _ _ HRC.out, BP1.out.2 0 _ rfl, BP1.out.2 1 _ rfl, frozen_of_row _ _ 0 _ _ HR1.out, frozen_of_row _ _ 1 _ _ HR1.out⟩
    have := BC.out.2 0 _ rfl
    simpa using this
  case round =>
    obtain ⟨j, ⟨ya, yc, ys⟩, hk, hj, hy, hys, hyF, hyN, hb, hsz, c0, c1, z0, z1, p0, p1, q0, q1⟩ := hrel
    simp only [Loc.val] at c1 hys
    have HY := Lib.hid hy
    have HYS := Lib.hid hys
    have HYF := Lib.hid hyF
    have HYN := Lib.hid hyN
    have HBR := Lib.hid hb
    have HK := Lib.hid hk
    have HSZ := Lib.hid hsz
    have hyl : ys.length = cs.length - 5 * j := by rw [hys, List.length_drop]
    have hmj := HM.out j
    have hy1 := hy.lenMax
    have hy2 := hy.lenCap
    have hy3 := hy.capMax
    have hxl := HXL.out
    simp only [maxLen] at hy1 hy2 hy3
    have HYL := Lib.hid hyl
    by_cases hjm : j < m
    · obtain ⟨g1, g2⟩ := hmj.1 hjm
      have h5 : 5 ≤ ys.length := by omega
      have hyb : ys.length ≤ 1048576 := by omega
      obtain ⟨b, o, ha⟩ := HY.out.place (show 0 < ys.length by omega)
      simp only at ha
      subst ha
      have d1 : decide (5 ≤ (ys.length : Int)) = true := decide_eq_true (by omega)
      have d2 : decide (cf + 5 * (j : Int) + 5 ≤ n) = true := decide_eq_true (by omega)
      clear hy hys hyF hyN hb hk hmj hyl hxl
      -- the world behind the first store
      have HW0 := Lib.hid (show Loc.At (wr.setCell ⟨w1.heap.size, 0, none⟩ (.int .i64 (cf + 5 * (j : Int) + 5))) (⟨some ⟨b, o, none⟩, yc, ys⟩ : Loc LRec) from Loc.keep_At HY.out fun c hc => Below.heap_setCell _ _ _ _ (HYN.out c hc))
      have HF0 := Lib.hid (show Fr (w.heap.size + 2) (wr.setCell ⟨w1.heap.size, 0, none⟩ (.int .i64 (cf + 5 * (j : Int) + 5))) (⟨some ⟨b, o, none⟩, yc, ys⟩ : Loc LRec).fp from HYF.out.keep fun c hc => Below.heap_setCell _ _ _ _ (HYN.out c hc))
      have hD : ∃ D : Loc LRec, D.val = (if yc = 5 then .slice (some ⟨b, o, none⟩) 0 0 else .slice (some ⟨b, o + 25, none⟩) (ys.length - 5) (yc - 5)) ∧ D.xs = ys.drop 5 ∧ D.At (wr.setCell ⟨w1.heap.size, 0, none⟩ (.int .i64 (cf + 5 * (j : Int) + 5))) ∧ List.Sublist D.fp (⟨some ⟨b, o, none⟩, yc, ys⟩ : Loc LRec).fp := by
        by_cases h : yc = 5
        · refine ⟨⟨some ⟨b, o, none⟩, 0, []⟩, by simp [h, Loc.val], ?_, ⟨Nat.le_refl _, Nat.zero_le _, by simp, by simp, by simp⟩, by simp [Loc.fp, Loc.blk]⟩
          exact (List.drop_of_length_le (by omega)).symm
        · exact ⟨⟨some ⟨b, o + 25, none⟩, yc - 5, ys.drop 5⟩, by simp [h, Loc.val], rfl, (drop5 HW0.out h5).1, (drop5 HW0.out h5).2⟩
      obtain ⟨D, hDv, hDx, hDA, hDs⟩ := hD
      have HDX := Lib.hid hDx
      have HDA := Lib.hid hDA
      have HDS := Lib.hid hDs
      have HDV := Lib.hid hDv
      have HO0 := Lib.hid (Own.made (α := LRec) (wr.setCell ⟨w1.heap.size, 0, none⟩ (.int .i64 (cf + 5 * (j : Int) + 5))) 49)
      have HB0 := Lib.hid ((Below.refl (wr.setCell ⟨w1.heap.size, 0, none⟩ (.int .i64 (cf + 5 * (j : Int) + 5))).heap.size (wr.setCell ⟨w1.heap.size, 0, none⟩ (.int .i64 (cf + 5 * (j : Int) + 5)))).alloc (Nat.le_refl _) (Obj.cells #[] 49))
      have HCELL : Hid ((wr.setCell ⟨w1.heap.size, 0, none⟩ (.int .i64 (cf + 5 * (j : Int) + 5))).cell? ⟨w1.heap.size, 0, none⟩ = some (.int .i64 (cf + 5 * (j : Int) + 5)) ∧ (wr.setCell ⟨w1.heap.size, 0, none⟩ (.int .i64 (cf + 5 * (j : Int) + 5))).frozen? ⟨w1.heap.size, 0, none⟩ = false) := Lib.hid ⟨by go_simp, by go_simp⟩
      have HSZ0 : Hid ((wr.setCell ⟨w1.heap.size, 0, none⟩ (.int .i64 (cf + 5 * (j : Int) + 5))).heap.size = wr.heap.size) := Lib.hid (by simp)
      clear hDv hDx hDA hDs
      by_cases hc5 : yc = 5
      · have HL5 := Lib.hid (show ys.length = 5 by omega)
        subst hc5
        go_wp2_with (at_builtin; refine wpList_append_all rfl _ _ 23 rfl wr.heap.size 49 elem_rec ⟨some ⟨wr.heap.size, 0, none⟩, 0, []⟩ rfl (by have := HO0.out; rw [HSZ0.out] at this; exact this) D (by rw [HDV.out, if_pos rfl]; simp [Act.eval, HL5.out]) (HDA.out.belowAll HB0.out) (fun z hz b hb h => by have := Loc.lt_of_At HDA.out b (List.mem_append_right _ (List.mem_flatMap.2 ⟨z, hz, hb⟩)); rw [HSZ0.out] at this; simp [Loc.val, Value.ownBlock] at h; omega) (by rw [HDX.out]; simp; omega) (by simp) ?_)
        intro l' w2 hap
        obtain ⟨la, lc, lxs⟩ := l'
        have hbw := hap.below (by have := HO0.out; rw [HSZ0.out] at this; exact this) (by have := HB0.out; rw [HSZ0.out] at this; exact this) (Nat.le_refl _) (by simp)
        have HX2 := Lib.hid (show lxs = cs.drop (5 * (j + 1)) by rw [show lxs = _ from hap.xs, List.nil_append, HDX.out, HYS.out, List.drop_drop, Nat.mul_succ])
        have HF2 := Lib.hid (hap.own.fr (lo := w.heap.size + 2) (by
          rw [hap.xs, List.nil_append]
          refine hap.keepFr ((HF0.out.sub ((List.sublist_append_right _ _).trans HDS.out)).belowAll HB0.out) fun b hb h => ?_
          have := (HF0.out.sub ((List.sublist_append_right _ _).trans HDS.out)).lt b hb
          rw [HSZ0.out] at this
          simp [Loc.val, Value.ownBlock] at h; omega) (by omega))
        have HA2 := Lib.hid hap.own.at_
        have HN2 := Lib.hid (show ∀ b ∈ (⟨la, lc, lxs⟩ : Loc LRec).fp, b ≠ w1.heap.size from fun b hb => by
          rcases List.mem_append.1 hb with h | h
          · have h2 := (hap.own.lt b (Loc.blk_own h)).1
            omega
          · rw [hap.xs, List.nil_append] at h
            exact HYN.out b (HDS.out.subset (List.mem_append_right _ h)))
        have HB2 := Lib.hid hbw
        clear hap hbw
        have e0 : w2.cell? ⟨w1.heap.size, 0, none⟩ = some (.int .i64 (cf + 5 * (j : Int) + 5)) := (HB2.out.cell (by simpa using HSZ.out)).trans HCELL.out.1
        have y0 : w2.frozen? ⟨w1.heap.size, 0, none⟩ = false := (HB2.out.frozen (by simpa using HSZ.out)).trans HCELL.out.2
        have e1 : w2.cell? ⟨w1.heap.size, 1, none⟩ = some (.slice (some ⟨b, o, none⟩) ys.length 5) := (HB2.out.cell (by simpa using HSZ.out)).trans (by go_simp)
        have y1 : w2.frozen? ⟨w1.heap.size, 1, none⟩ = false := (HB2.out.frozen (by simpa using HSZ.out)).trans (by go_simp)
        have r0 : w2.cell? ⟨w.heap.size + 1, 0, none⟩ = some (.int .i64 0) := (HB2.out.cell (by simp; omega)).trans (by go_simp)
        have r1 : w2.cell? ⟨w.heap.size + 1, 1, none⟩ = some (.slice none 0 0) := (HB2.out.cell (by simp; omega)).trans (by go_simp)
        have s0 : w2.frozen? ⟨w.heap.size + 1, 0, none⟩ = false := (HB2.out.frozen (by simp; omega)).trans (by go_simp)
        have s1 : w2.frozen? ⟨w.heap.size + 1, 1, none⟩ = false := (HB2.out.frozen (by simp; omega)).trans (by go_simp)
        have HS2 := Lib.hid (Nat.lt_of_lt_of_le HSZ.out (by have := HB2.out.size; simpa using this))
        have HBB := Lib.hid (show Below w.heap.size w w2 from (HBR.out.setCell (by simp; omega) _).trans (HB2.out.mono (by have := HBR.out.size; simp; omega)))
        clear z0 z1 c0 c1 p0 p1 q0 q1
        simp only [Loc.val]
        go_wp2_with fail
        go_roundg (m - (j + 1))
        case measure => have := HK.out; omega
        case rel =>
          refine ⟨j + 1, ⟨la, lc, lxs⟩, by omega, by omega, Loc.keep_At HA2.out fun c hc => Below.heap_setCell _ _ _ _ (HN2.out c hc), HX2.out, HF2.out.keep fun c hc => Below.heap_setCell _ _ _ _ (HN2.out c hc), HN2.out, HBB.out.setCell (by simp; omega) _, by have := HS2.out; simpa using this, ?_, ?_, ?_, ?_, ?_, ?_, ?_, ?_⟩
          · go_simp
            omega
          · go_simp
            rfl
          all_goals go_simp
      · have hcc : ¬ ((yc : Int) = 5) := by omega
        go_wp2_with (at_builtin; refine wpList_append_all rfl _ _ 23 rfl wr.heap.size 49 elem_rec ⟨some ⟨wr.heap.size, 0, none⟩, 0, []⟩ rfl (by have := HO0.out; rw [HSZ0.out] at this; exact this) D (by rw [HDV.out, if_neg hc5]; rfl) (HDA.out.belowAll HB0.out) (fun z hz b hb h => by have := Loc.lt_of_At HDA.out b (List.mem_append_right _ (List.mem_flatMap.2 ⟨z, hz, hb⟩)); rw [HSZ0.out] at this; simp [Loc.val, Value.ownBlock] at h; omega) (by rw [HDX.out]; simp; omega) (by simp) ?_)
        intro l' w2 hap
        obtain ⟨la, lc, lxs⟩ := l'
        have hbw := hap.below (by have := HO0.out; rw [HSZ0.out] at this; exact this) (by have := HB0.out; rw [HSZ0.out] at this; exact this) (Nat.le_refl _) (by simp)
        have HX2 := Lib.hid (show lxs = cs.drop (5 * (j + 1)) by rw [show lxs = _ from hap.xs, List.nil_append, HDX.out, HYS.out, List.drop_drop, Nat.mul_succ])
        have HF2 := Lib.hid (hap.own.fr (lo := w.heap.size + 2) (by
          rw [hap.xs, List.nil_append]
          refine hap.keepFr ((HF0.out.sub ((List.sublist_append_right _ _).trans HDS.out)).belowAll HB0.out) fun b hb h => ?_
          have := (HF0.out.sub ((List.sublist_append_right _ _).trans HDS.out)).lt b hb
          rw [HSZ0.out] at this
          simp [Loc.val, Value.ownBlock] at h; omega) (by omega))
        have HA2 := Lib.hid hap.own.at_
        have HN2 := Lib.hid (show ∀ b ∈ (⟨la, lc, lxs⟩ : Loc LRec).fp, b ≠ w1.heap.size from fun b hb => by
          rcases List.mem_append.1 hb with h | h
          · have h2 := (hap.own.lt b (Loc.blk_own h)).1
            omega
          · rw [hap.xs, List.nil_append] at h
            exact HYN.out b (HDS.out.subset (List.mem_append_right _ h)))
        have HB2 := Lib.hid hbw
        clear hap hbw
        have e0 : w2.cell? ⟨w1.heap.size, 0, none⟩ = some (.int .i64 (cf + 5 * (j : Int) + 5)) := (HB2.out.cell (by simpa using HSZ.out)).trans HCELL.out.1
        have y0 : w2.frozen? ⟨w1.heap.size, 0, none⟩ = false := (HB2.out.frozen (by simpa using HSZ.out)).trans HCELL.out.2
        have e1 : w2.cell? ⟨w1.heap.size, 1, none⟩ = some (.slice (some ⟨b, o, none⟩) ys.length yc) := (HB2.out.cell (by simpa using HSZ.out)).trans (by go_simp)
        have y1 : w2.frozen? ⟨w1.heap.size, 1, none⟩ = false := (HB2.out.frozen (by simpa using HSZ.out)).trans (by go_simp)
        have r0 : w2.cell? ⟨w.heap.size + 1, 0, none⟩ = some (.int .i64 0) := (HB2.out.cell (by simp; omega)).trans (by go_simp)
        have r1 : w2.cell? ⟨w.heap.size + 1, 1, none⟩ = some (.slice none 0 0) := (HB2.out.cell (by simp; omega)).trans (by go_simp)
        have s0 : w2.frozen? ⟨w.heap.size + 1, 0, none⟩ = false := (HB2.out.frozen (by simp; omega)).trans (by go_simp)
        have s1 : w2.frozen? ⟨w.heap.size + 1, 1, none⟩ = false := (HB2.out.frozen (by simp; omega)).trans (by go_simp)
        have HS2 := Lib.hid (Nat.lt_of_lt_of_le HSZ.out (by have := HB2.out.size; simpa using this))
        have HBB := Lib.hid (show Below w.heap.size w w2 from (HBR.out.setCell (by simp; omega) _).trans (HB2.out.mono (by have := HBR.out.size; simp; omega)))
        clear z0 z1 c0 c1 p0 p1 q0 q1
        simp only [Loc.val]
        go_wp2_with fail
        go_roundg (m - (j + 1))
        case measure => have := HK.out; omega
        case rel =>
          refine ⟨j + 1, ⟨la, lc, lxs⟩, by omega, by omega, Loc.keep_At HA2.out fun c hc => Below.heap_setCell _ _ _ _ (HN2.out c hc), HX2.out, HF2.out.keep fun c hc => Below.heap_setCell _ _ _ _ (HN2.out c hc), HN2.out, HBB.out.setCell (by simp; omega) _, by have := HS2.out; simpa using this, ?_, ?_, ?_, ?_, ?_, ?_, ?_, ?_⟩
          · go_simp
            omega
          · go_simp
            rfl
          all_goals go_simp
    · obtain rfl : j = m := by omega
      have hgt : ¬ (5 ≤ ys.length ∧ cf + 5 * (j : Int) + 5 ≤ n) := fun ⟨h1, h2⟩ => hjm (hmj.2 ⟨by omega, h2⟩)
      have HEND := Lib.hid hgt
      have hjl : 5 * j ≤ 1048576 ∨ ys.length = 0 := by omega
      clear hy hys hyF hyN hb hk hmj hgt hxl
      by_cases h5 : 5 ≤ ys.length
      · have d1 : decide (5 ≤ (ys.length : Int)) = true := decide_eq_true (by omega)
        have hjl : 5 * j ≤ 1048576 := by omega
        clear hyl
        have d2 : decide (cf + 5 * (j : Int) + 5 ≤ n) = false := decide_eq_false (fun h => HEND.out ⟨h5, h⟩)
        go_wp2_with fail
        refine bodyPost_ret (v := .agg #[.int .i64 (cf + 5 * (j : Int)), .slice ya ys.length yc]) ?_ rfl ⟨⟨cf + 5 * (j : Int), ⟨ya, yc, ys⟩⟩, rfl, ?_, ?_, ?_, ?_⟩
        · simp only [results, Tryd.results51]
          go_simp
        · simp only [LLog.er, HYS.out, List.map_drop, HCE.out]
        · refine Loc.keep_At HY.out fun c hc => ?_
          have h1 := HYF.out.ge c hc
          rw [Below.heap_setCell _ _ _ _ (by simp only; omega), Below.heap_setCell _ _ _ _ (by simp only; omega)]
        · exact ((HYF.out.set_low (by simp only; omega) _).set_low (by simp only; omega) _).mono (by omega)
        · exact (HBR.out.setCell (by simp) _).setCell (by simp) _
      · have d1 : decide (5 ≤ (ys.length : Int)) = false := decide_eq_false (by omega)
        clear hyl
        go_wp2_with fail
        refine bodyPost_ret (v := .agg #[.int .i64 (cf + 5 * (j : Int)), .slice ya ys.length yc]) ?_ rfl ⟨⟨cf + 5 * (j : Int), ⟨ya, yc, ys⟩⟩, rfl, ?_, ?_, ?_, ?_⟩
        · simp only [results, Tryd.results51]
          go_simp
        · simp only [LLog.er, HYS.out, List.map_drop, HCE.out]
        · refine Loc.keep_At HY.out fun c hc => ?_
          have h1 := HYF.out.ge c hc
          rw [Below.heap_setCell _ _ _ _ (by simp only; omega), Below.heap_setCell _ _ _ _ (by simp only; omega)]
        · exact ((HYF.out.set_low (by simp only; omega) _).set_low (by simp only; omega) _).mono (by omega)
        · exact (HBR.out.setCell (by simp) _).setCell (by simp) _
end Go.Proofs.YtdbejmnfnbkndaaDoor

namespace Go.Proofs.YtdbejmnfnbkndaaDoor
open Go Go.RowKit

/-- What both LogFrees answer. -/
noncomputable def freeZ (n : Int) (l : Log) : Log := if logB l = true ∧ 0 ≤ n then ⟨l.from_ + 5 * (freeN l.from_ n l.recs.length : Nat), l.recs.drop (5 * freeN l.from_ n l.recs.length)⟩ else ⟨0, []⟩
theorem freeZ_no1 {n : Int} {l : Log} (h : logB l = false) : freeZ n l = ⟨0, []⟩ := by unfold freeZ; rw [if_neg (by simp [h])]
theorem freeZ_no2 {n : Int} {l : Log} (h : n < 0) : freeZ n l = ⟨0, []⟩ := by unfold freeZ; rw [if_neg (by omega)]
theorem freeZ_k (n : Int) (l : Log) : recsK (freeZ n l).recs ∧ (freeZ n l).recs.length ≤ 40 := by
  rw [freeZ]
  split
  · rename_i h
    have h2 := (logB_iff _).1 h.1
    exact ⟨fun r hr => logB_recsK h.1 r (List.mem_of_mem_drop hr), by have := h2.2.2.2.1; simp only [List.length_drop]; omega⟩
  · exact ⟨fun r hr => (by simp at hr), Nat.zero_le _⟩

set_option maxRecDepth 100000 in
set_option maxHeartbeats 1000000 in
theorem iLogFree_any (x : LLog) (n : Int) (w : World) (hx : x.At w) (hn : -9223372036854775808 ≤ n ∧ n ≤ 9223372036854775807) :
    Calls Tryd.prog 28 #[x.val, .int .i64 n] w (LogNew w (fun l => l = freeZ n x.er)) := by
  have hB := ((Below.refl w.heap.size w).alloc (Nat.le_refl _) (Obj.cells #[.int .i64 x.from_, x.recs.val] 25)).alloc (by simp) (Obj.cells #[.int .i64 0, .slice none 0 0] 25)
  have b2 : Below (w.alloc (Obj.cells #[.int .i64 x.from_, x.recs.val] 25)).heap.size (w.alloc (Obj.cells #[.int .i64 x.from_, x.recs.val] 25)) ((w.alloc (Obj.cells #[.int .i64 x.from_, x.recs.val] 25)).alloc (Obj.cells #[.int .i64 0, .slice none 0 0] 25)) := (Below.refl _ _).alloc (Nat.le_refl _) _
  have hc := Lib.hid (isLog_any x _ (Loc.At.belowAll hx hB))
  have HX := Lib.hid (show LLog.At _ x from Loc.At.belowAll hx hB)
  have BX := Lib.hid ((Boxed.new w #[.int .i64 x.from_, x.recs.val] 25).keep b2)
  have BP := Lib.hid (Boxed.new (w.alloc (Obj.cells #[.int .i64 x.from_, x.recs.val] 25)) #[.int .i64 0, .slice none 0 0] 25)
  have HRP := Lib.hid (heap_alloc_new (w.alloc (Obj.cells #[.int .i64 x.from_, x.recs.val] 25)) (Obj.cells #[.int .i64 0, .slice none 0 0] 25))
  have HZ1 : (w.alloc (Obj.cells #[.int .i64 x.from_, x.recs.val] 25)).heap.size = w.heap.size + 1 := by simp
  rw [HZ1] at BP HRP
  have HZ2 : Hid (((w.alloc (Obj.cells #[.int .i64 x.from_, x.recs.val] 25)).alloc (Obj.cells #[.int .i64 0, .slice none 0 0] 25)).heap.size = w.heap.size + 2) := Lib.hid (by simp)
  have HB := Lib.hid hB
  generalize hb : logB x.er = b at hc
  have HBB := Lib.hid hb
  clear hb hB b2 HZ1 hx
  have HCU := Lib.hid (fun W (hW : x.At W) (h1 : 0 ≤ x.from_ ∧ x.from_ ≤ 5000) (h2 : 0 ≤ n) (h3 : x.recs.xs.length ≤ 1048576) (h4 : recsK (x.recs.xs.map LRec.er)) => free_any x n W hW h1 ⟨h2, hn.2⟩ h3 h4)
  generalize hxx : x = x' at *
  obtain ⟨xf, xa, xc, xs⟩ := x
  subst hxx
  simp only [LLog.val, Loc.val] at hc HCU HX BX BP HRP HZ2 HB ⊢
  go_enter Tryd.func28, Tryd.ntmps28
  go_wp2_with fail
  generalize (w.alloc (Obj.cells #[.int .i64 xf, .slice xa xs.length xc] 25)).alloc (Obj.cells #[.int .i64 0, .slice none 0 0] 25) = w0 at *
  refine hc.out.mono ?_
  rintro e w1 ⟨rfl, hb1⟩
  have B1 := Lib.hid (HB.out.trans (hb1.mono HB.out.size))
  have X1 := Lib.hid (LLog.below' HX.out hb1)
  have BX1 := Lib.hid (BX.out.keep hb1)
  have BP1 := Lib.hid (BP.out.keep hb1)
  have HR1 := Lib.hid ((hb1.block _ BP.out.1).trans HRP.out)
  have HSZ1 := Lib.hid (show w.heap.size + 2 ≤ w1.heap.size by have := hb1.size; have := HZ2.out; omega)
  have xc0 := BX1.out.2 0 _ rfl
  have xc1 := BX1.out.2 1 _ rfl
  clear hb1 hc
  cases b with
  | false =>
    have z0 := frozen_of_row w1 (w.heap.size + 1) 0 _ _ HR1.out
    have z1 := frozen_of_row w1 (w.heap.size + 1) 1 _ _ HR1.out
    have pc0 := BP1.out.2 0 _ rfl
    have pc1 := BP1.out.2 1 _ rfl
    go_wp2_with fail
    refine bodyPost_ret (v := .agg #[.int .i64 0, .slice none 0 0]) ?_ rfl ⟨⟨0, ⟨none, 0, []⟩⟩, rfl, ?_, ⟨Nat.le_refl _, Nat.zero_le _, by simp, by simp, by simp⟩, by simpa [Loc.fp, Loc.blk] using Fr.nil _ _, ?_⟩
    · simp only [results, Tryd.results28]
      go_simp
    · first | exact (freeZ_no1 HBB.out).symm | exact (freeZ_no2 (by omega)).symm
    · exact (B1.out.setCell (by simp) _).setCell (by simp) _
  | true =>
    have HLB := Lib.hid ((logB_iff _).1 HBB.out)
    by_cases hn0 : n < 0
    · skip
      have z0 := frozen_of_row w1 (w.heap.size + 1) 0 _ _ HR1.out
      have z1 := frozen_of_row w1 (w.heap.size + 1) 1 _ _ HR1.out
      have pc0 := BP1.out.2 0 _ rfl
      have pc1 := BP1.out.2 1 _ rfl
      go_wp2_with fail
      refine bodyPost_ret (v := .agg #[.int .i64 0, .slice none 0 0]) ?_ rfl ⟨⟨0, ⟨none, 0, []⟩⟩, rfl, ?_, ⟨Nat.le_refl _, Nat.zero_le _, by simp, by simp, by simp⟩, by simpa [Loc.fp, Loc.blk] using Fr.nil _ _, ?_⟩
      · simp only [results, Tryd.results28]
        go_simp
      · first | exact (freeZ_no1 HBB.out).symm | exact (freeZ_no2 (by omega)).symm
      · exact (B1.out.setCell (by simp) _).setCell (by simp) _
    · have hnd : decide (n < 0) = false := decide_eq_false hn0
      go_wp2_with fail
      refine (HCU.out w1 X1.out ⟨HLB.out.1, HLB.out.2.1⟩ (by omega) (by have h4 : (xs.map LRec.er).length ≤ 40 := HLB.out.2.2.2.1; rw [List.length_map] at h4; exact Nat.le_trans h4 (by decide)) (logB_recsK HBB.out)).mono ?_
      rintro e w2 ⟨⟨yf, ⟨ya, yc, ys⟩⟩, rfl, hy, hyA, hyF, hb2⟩
      have HYE := Lib.hid hy
      have HYA := Lib.hid hyA
      have HYF := Lib.hid (hyF.mono (show w.heap.size + 2 ≤ _ from HSZ1.out))
      have B3 := Lib.hid (B1.out.trans (hb2.mono B1.out.size))
      have HRW := Lib.hid ((hb2.block (w.heap.size + 1) BP1.out.1).trans HR1.out)
      have BP2 := Lib.hid (BP1.out.keep hb2)
      have z0 := frozen_of_row _ (w.heap.size + 1) 0 _ _ HRW.out
      have z1 := frozen_of_row _ (w.heap.size + 1) 1 _ _ HRW.out
      have pc0 := BP2.out.2 0 _ rfl
      have pc1 := BP2.out.2 1 _ rfl
      simp only [LLog.val, Loc.val]
      clear hy hyA hyF hb2
      go_wp2_with fail
      refine bodyPost_ret (v := .agg #[.int .i64 yf, .slice ya ys.length yc]) ?_ rfl ⟨⟨yf, ⟨ya, yc, ys⟩⟩, rfl, ?_, ?_, ?_, ?_⟩
      · simp only [results, Tryd.results28]
        go_simp
      · exact HYE.out.trans (by rw [freeZ, if_pos ⟨HBB.out, by omega⟩]; simp only [LLog.er, List.length_map, List.map_drop])
      · refine Loc.keep_At HYA.out fun b hb => ?_
        have h1 := HYF.out.ge b hb
        rw [Below.heap_setCell _ _ _ _ (by simp only; omega), Below.heap_setCell _ _ _ _ (by simp only; omega)]
      · exact ((HYF.out.set_low (by simp only; omega) _).set_low (by simp only; omega) _).mono (by omega)
      · exact (B3.out.setCell (by simp) _).setCell (by simp) _
set_option maxRecDepth 100000 in
set_option maxHeartbeats 1000000 in
theorem sLogFree_any (x : LLog) (n : Int) (w : World) (hx : x.At w) (hn : -9223372036854775808 ≤ n ∧ n ≤ 9223372036854775807) :
    Calls Tryd.prog 29 #[x.val, .int .i64 n] w (LogNew w (fun l => l = freeZ n x.er)) := by
  have hB := ((Below.refl w.heap.size w).alloc (Nat.le_refl _) (Obj.cells #[.int .i64 x.from_, x.recs.val] 25)).alloc (by simp) (Obj.cells #[.int .i64 0, .slice none 0 0] 25)
  have b2 : Below (w.alloc (Obj.cells #[.int .i64 x.from_, x.recs.val] 25)).heap.size (w.alloc (Obj.cells #[.int .i64 x.from_, x.recs.val] 25)) ((w.alloc (Obj.cells #[.int .i64 x.from_, x.recs.val] 25)).alloc (Obj.cells #[.int .i64 0, .slice none 0 0] 25)) := (Below.refl _ _).alloc (Nat.le_refl _) _
  have hc := Lib.hid (sLogOk_any x _ (Loc.At.belowAll hx hB))
  have HX := Lib.hid (show LLog.At _ x from Loc.At.belowAll hx hB)
  have BX := Lib.hid ((Boxed.new w #[.int .i64 x.from_, x.recs.val] 25).keep b2)
  have BP := Lib.hid (Boxed.new (w.alloc (Obj.cells #[.int .i64 x.from_, x.recs.val] 25)) #[.int .i64 0, .slice none 0 0] 25)
  have HRP := Lib.hid (heap_alloc_new (w.alloc (Obj.cells #[.int .i64 x.from_, x.recs.val] 25)) (Obj.cells #[.int .i64 0, .slice none 0 0] 25))
  have HZ1 : (w.alloc (Obj.cells #[.int .i64 x.from_, x.recs.val] 25)).heap.size = w.heap.size + 1 := by simp
  rw [HZ1] at BP HRP
  have HZ2 : Hid (((w.alloc (Obj.cells #[.int .i64 x.from_, x.recs.val] 25)).alloc (Obj.cells #[.int .i64 0, .slice none 0 0] 25)).heap.size = w.heap.size + 2) := Lib.hid (by simp)
  have HB := Lib.hid hB
  generalize hb : logB x.er = b at hc
  have HBB := Lib.hid hb
  clear hb hB b2 HZ1 hx
  have HCO := Lib.hid (fun W (hW : x.At W) (h3 : x.recs.xs.length ≤ 1048576) (h4 : recsK (x.recs.xs.map LRec.er)) => l12Copy_any x W hW h3 h4)
  generalize hxx : x = x' at *
  obtain ⟨xf, xa, xc, xs⟩ := x
  subst hxx
  simp only [LLog.val, Loc.val] at hc HCO HX BX BP HRP HZ2 HB ⊢
  go_enter Tryd.func29, Tryd.ntmps29
  go_wp2_with fail
  generalize (w.alloc (Obj.cells #[.int .i64 xf, .slice xa xs.length xc] 25)).alloc (Obj.cells #[.int .i64 0, .slice none 0 0] 25) = w0 at *
  refine hc.out.mono ?_
  rintro e w1 ⟨rfl, hb1⟩
  have B1 := Lib.hid (HB.out.trans (hb1.mono HB.out.size))
  have X1 := Lib.hid (LLog.below' HX.out hb1)
  have BX1 := Lib.hid (BX.out.keep hb1)
  have BP1 := Lib.hid (BP.out.keep hb1)
  have HR1 := Lib.hid ((hb1.block _ BP.out.1).trans HRP.out)
  have HSZ1 := Lib.hid (show w.heap.size + 2 ≤ w1.heap.size by have := hb1.size; have := HZ2.out; omega)
  have xc0 := BX1.out.2 0 _ rfl
  have xc1 := BX1.out.2 1 _ rfl
  clear hb1 hc
  cases b with
  | false =>
    have z0 := frozen_of_row w1 (w.heap.size + 1) 0 _ _ HR1.out
    have z1 := frozen_of_row w1 (w.heap.size + 1) 1 _ _ HR1.out
    have pc0 := BP1.out.2 0 _ rfl
    have pc1 := BP1.out.2 1 _ rfl
    go_wp2_with fail
    refine bodyPost_ret (v := .agg #[.int .i64 0, .slice none 0 0]) ?_ rfl ⟨⟨0, ⟨none, 0, []⟩⟩, rfl, ?_, ⟨Nat.le_refl _, Nat.zero_le _, by simp, by simp, by simp⟩, by simpa [Loc.fp, Loc.blk] using Fr.nil _ _, ?_⟩
    · simp only [results, Tryd.results29]
      go_simp
    · first | exact (freeZ_no1 HBB.out).symm | exact (freeZ_no2 (by omega)).symm
    · exact (B1.out.setCell (by simp) _).setCell (by simp) _
  | true =>
    have HLB := Lib.hid ((logB_iff _).1 HBB.out)
    by_cases hn0 : n < 0
    · skip
      have z0 := frozen_of_row w1 (w.heap.size + 1) 0 _ _ HR1.out
      have z1 := frozen_of_row w1 (w.heap.size + 1) 1 _ _ HR1.out
      have pc0 := BP1.out.2 0 _ rfl
      have pc1 := BP1.out.2 1 _ rfl
      go_wp2_with fail
      refine bodyPost_ret (v := .agg #[.int .i64 0, .slice none 0 0]) ?_ rfl ⟨⟨0, ⟨none, 0, []⟩⟩, rfl, ?_, ⟨Nat.le_refl _, Nat.zero_le _, by simp, by simp, by simp⟩, by simpa [Loc.fp, Loc.blk] using Fr.nil _ _, ?_⟩
      · simp only [results, Tryd.results29]
        go_simp
      · first | exact (freeZ_no1 HBB.out).symm | exact (freeZ_no2 (by omega)).symm
      · exact (B1.out.setCell (by simp) _).setCell (by simp) _
    · have hnd : decide (n < 0) = false := decide_eq_false hn0
      go_wp2_with fail
      refine (HCO.out w1 X1.out (by have h4 : (xs.map LRec.er).length ≤ 40 := HLB.out.2.2.2.1; rw [List.length_map] at h4; exact Nat.le_trans h4 (by decide)) (logB_recsK HBB.out)).mono ?_
      rintro e w2 ⟨⟨cf, ⟨ca, cc, cs⟩⟩, rfl, hc, hcO, hcF, hb2⟩
      have HCE := Lib.hid (show (⟨cf, cs.map LRec.er⟩ : Log) = ⟨xf, xs.map LRec.er⟩ from hc)
      have CA2 := Lib.hid (show LLog.At w2 ⟨cf, ⟨ca, cc, cs⟩⟩ from Own.at_ hcO)
      have CF2 := Lib.hid (show Fr w1.heap.size w2 (Loc.fp (⟨ca, cc, cs⟩ : Loc LRec)) from Own.fr hcO hcF (Nat.le_refl _))
      have B2 := Lib.hid (B1.out.trans (hb2.mono B1.out.size))
      have BP2 := Lib.hid (BP1.out.keep hb2)
      have HR2 := Lib.hid ((hb2.block _ BP1.out.1).trans HR1.out)
      have HSZ2 := Lib.hid (Nat.le_trans HSZ1.out hb2.size)
      have hcf : cf = xf := congrArg Log.from_ HCE.out
      have hcl : cs.map LRec.er = xs.map LRec.er := congrArg Log.recs HCE.out
      have HCF := Lib.hid hcf
      have HCL := Lib.hid hcl
      have HCU := Lib.hid (l12Free_any ⟨cf, ⟨ca, cc, cs⟩⟩ n w2 CA2.out (by rw [hcf]; exact ⟨HLB.out.1, HLB.out.2.1⟩) ⟨by omega, hn.2⟩ (by simp only; have h4 : (xs.map LRec.er).length ≤ 40 := HLB.out.2.2.2.1; have h5 := congrArg List.length hcl; simp only [List.length_map] at h4 h5; omega))
      clear hc hcO hcF hb2 hcf hcl xc0 xc1
      go_wp2_with fail
      refine HCU.out.mono ?_
      rintro e w3 ⟨⟨yf, ⟨ya, yc, ys⟩⟩, rfl, hy, hyA, hsub, hb3⟩
      have hyF := (CF2.out.belowAll hb3).sub hsub
      have hb2 := hb3
      have hcl2 : cs.length = xs.length := by have h5 := congrArg List.length HCL.out; simpa using h5
      have HYC := Lib.hid (show LLog.er ⟨yf, ⟨ya, yc, ys⟩⟩ = freeZ n (LLog.er ⟨xf, ⟨xa, xc, xs⟩⟩) by
        rw [hy, freeZ, if_pos ⟨HBB.out, by omega⟩]
        simp only [LLog.er, List.length_map, HCF.out, HCL.out, hcl2])
      clear hy hcl2
      have hy := HYC.out
      have B1' := B2.out
      have HSZ2' := HSZ1.out
      have HYE := Lib.hid hy
      have HYA := Lib.hid hyA
      have HYF := Lib.hid (hyF.mono (show w.heap.size + 2 ≤ _ from HSZ1.out))
      have B3 := Lib.hid (B2.out.trans (hb2.mono B2.out.size))
      have HRW := Lib.hid ((hb2.block (w.heap.size + 1) BP2.out.1).trans HR2.out)
      have BP3 := Lib.hid (BP2.out.keep hb2)
      have z0 := frozen_of_row _ (w.heap.size + 1) 0 _ _ HRW.out
      have z1 := frozen_of_row _ (w.heap.size + 1) 1 _ _ HRW.out
      have pc0 := BP3.out.2 0 _ rfl
      have pc1 := BP3.out.2 1 _ rfl
      simp only [LLog.val, Loc.val]
      clear hy hyA hyF hb2
      go_wp2_with fail
      refine bodyPost_ret (v := .agg #[.int .i64 yf, .slice ya ys.length yc]) ?_ rfl ⟨⟨yf, ⟨ya, yc, ys⟩⟩, rfl, ?_, ?_, ?_, ?_⟩
      · simp only [results, Tryd.results29]
        go_simp
      · exact HYC.out
      · refine Loc.keep_At HYA.out fun b hb => ?_
        have h1 := HYF.out.ge b hb
        rw [Below.heap_setCell _ _ _ _ (by simp only; omega), Below.heap_setCell _ _ _ _ (by simp only; omega)]
      · exact ((HYF.out.set_low (by simp only; omega) _).set_low (by simp only; omega) _).mono (by omega)
      · exact (B3.out.setCell (by simp) _).setCell (by simp) _
end Go.Proofs.YtdbejmnfnbkndaaDoor
