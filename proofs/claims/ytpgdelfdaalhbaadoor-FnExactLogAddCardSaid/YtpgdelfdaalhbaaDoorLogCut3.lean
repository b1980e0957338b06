/- LogCut of the reference. -/
import Derived.Test.YtpgdelfdaalhbaaDoorLogCut2
import Derived.Test.YtpgdelfdaalhbaaDoorSpec5
namespace Go.Proofs.YtpgdelfdaalhbaaDoor
open Go Go.RowKit

theorem Loc.fp_take {α : Type} [Dat α] (l : Loc α) (n : Nat) : List.Sublist (Loc.fp ⟨l.a, l.cap, l.xs.take n⟩) l.fp := by
  unfold Loc.fp
  refine List.Sublist.append ?_ ?_
  · unfold Loc.blk
    by_cases h : l.xs = []
    · simp [h]
    · by_cases h2 : l.xs.take n = []
      · simp [h2]
      · simp only [if_neg h, if_neg h2]; exact List.Sublist.refl _
  · simp only
    conv => rhs; rw [← List.take_append_drop n l.xs, List.flatMap_append]
    exact List.sublist_append_left _ _
set_option maxRecDepth 100000 in
set_option maxHeartbeats 1000000 in
theorem l12Cut_any (x : LLog) (n : Int) (w : World) (hx : x.At w) (hf : 0 ≤ x.from_ ∧ x.from_ ≤ 5000) (hn : 0 ≤ n ∧ n ≤ 9223372036854775807) :
    Calls Tryd.prog 51 #[x.val, .int .i64 n] w (fun e w' => e = .returned (LLog.val ⟨x.from_, ⟨x.recs.a, x.recs.cap, x.recs.xs.take (placeN x.from_ n x.recs.xs.length)⟩⟩) ∧ Below w.heap.size w w') := by
  have hple := placeN_le x.from_ n x.recs.xs.length
  obtain ⟨xf, xa, xc, xs⟩ := x
  have h1 := Loc.At.lenMax hx
  have h2 := Loc.At.lenCap hx
  have h3 := Loc.At.capMax hx
  simp only at h1 h2 hple hf
  simp only [maxLen] at h3
  obtain ⟨hf1, hf2⟩ := hf
  obtain ⟨hn1, hn2⟩ := hn
  simp only [LLog.val, Loc.val]
  have HX := Lib.hid hx
  have hP : max 0 (min (xs.length : Int) (n - xf)) = (placeN xf n xs.length : Int) := by unfold placeN; omega
  generalize hp : placeN xf n xs.length = p at *
  have hpc : p ≤ xc := by omega
  have HPL := Lib.hid hple
  clear hx hp
  go_enter Tryd.func51, Tryd.ntmps51
  go_wp2_with fail
  refine bodyPost_ret (v := .agg #[.int .i64 xf, .slice xa p xc]) ?_ rfl ⟨?_, ?_⟩
  · simp only [results, Tryd.results51]
    go_simp
  · simp only [LLog.val, Loc.val, List.length_take, Nat.min_eq_left HPL.out]
  · repeat' (refine Below.alloc ?_ (by first | exact Nat.le_refl _ | (simp; done) | (simp; omega)) _)
    exact Below.refl _ _

set_option maxRecDepth 100000 in
set_option maxHeartbeats 1000000 in
theorem sLogCut_any (x : LLog) (n : Int) (w : World) (hx : x.At w) (hn : -9223372036854775808 ≤ n ∧ n ≤ 9223372036854775807) :
    Calls Tryd.prog 20 #[x.val, .int .i64 n] w (LogNew w (fun l => l = cutZ n x.er)) := by
  have hB := ((Below.refl w.heap.size w).alloc (Nat.le_refl _) (Obj.cells #[.int .i64 x.from_, x.recs.val] 29)).alloc (by simp) (Obj.cells #[.int .i64 0, .slice none 0 0] 29)
  have b2 : Below (w.alloc (Obj.cells #[.int .i64 x.from_, x.recs.val] 29)).heap.size (w.alloc (Obj.cells #[.int .i64 x.from_, x.recs.val] 29)) ((w.alloc (Obj.cells #[.int .i64 x.from_, x.recs.val] 29)).alloc (Obj.cells #[.int .i64 0, .slice none 0 0] 29)) := (Below.refl _ _).alloc (Nat.le_refl _) _
  have hc := Lib.hid (sLogOk_any x _ (Loc.At.belowAll hx hB))
  have HX := Lib.hid (show LLog.At _ x from Loc.At.belowAll hx hB)
  have BX := Lib.hid ((Boxed.new w #[.int .i64 x.from_, x.recs.val] 29).keep b2)
  have BP := Lib.hid (Boxed.new (w.alloc (Obj.cells #[.int .i64 x.from_, x.recs.val] 29)) #[.int .i64 0, .slice none 0 0] 29)
  have HRP := Lib.hid (heap_alloc_new (w.alloc (Obj.cells #[.int .i64 x.from_, x.recs.val] 29)) (Obj.cells #[.int .i64 0, .slice none 0 0] 29))
  have HZ1 : (w.alloc (Obj.cells #[.int .i64 x.from_, x.recs.val] 29)).heap.size = w.heap.size + 1 := by simp
  rw [HZ1] at BP HRP
  have HZ2 : Hid (((w.alloc (Obj.cells #[.int .i64 x.from_, x.recs.val] 29)).alloc (Obj.cells #[.int .i64 0, .slice none 0 0] 29)).heap.size = w.heap.size + 2) := Lib.hid (by simp)
  have HB := Lib.hid hB
  generalize hb : logB x.er = b at hc
  have HBB := Lib.hid hb
  clear hb hB b2 HZ1 hx
  have HCO := Lib.hid (fun W (hW : x.At W) (h3 : x.recs.xs.length ≤ 1048576) (h4 : recsK (x.recs.xs.map LRec.er)) => l12Copy_any x W hW h3 h4)
  generalize hxx : x = x' at *
  obtain ⟨xf, xa, xc, xs⟩ := x
  subst hxx
  simp only [LLog.val, Loc.val] at hc HCO HX BX BP HRP HZ2 HB ⊢
  go_enter Tryd.func20, Tryd.ntmps20
  go_wp2_with fail
  generalize (w.alloc (Obj.cells #[.int .i64 xf, .slice xa xs.length xc] 29)).alloc (Obj.cells #[.int .i64 0, .slice none 0 0] 29) = w0 at *
  refine hc.out.mono ?_
  rintro e w1 ⟨rfl, hb1⟩
  have B1 := Lib.hid (HB.out.trans (hb1.mono HB.out.size))
  have X1 := Lib.hid (LLog.below' HX.out hb1)
  have BX1 := Lib.hid (BX.out.keep hb1)
  have BP1 := Lib.hid (BP.out.keep hb1)
  have HR1 := Lib.hid ((hb1.block _ BP.out.1).trans HRP.out)
  have HSZ1 := Lib.hid (show w.heap.size + 2 ≤ w1.heap.size by have := hb1.size; have := HZ2.out; omega)
  have xc0 := BX1.out.2 0 _ rfl
  have xc1 := BX1.out.2 1 _ rfl
  clear hb1 hc
  cases b with
  | false =>
    have z0 := frozen_of_row w1 (w.heap.size + 1) 0 _ _ HR1.out
    have z1 := frozen_of_row w1 (w.heap.size + 1) 1 _ _ HR1.out
    have pc0 := BP1.out.2 0 _ rfl
    have pc1 := BP1.out.2 1 _ rfl
    go_wp2_with fail
    refine bodyPost_ret (v := .agg #[.int .i64 0, .slice none 0 0]) ?_ rfl ⟨⟨0, ⟨none, 0, []⟩⟩, rfl, ?_, ⟨Nat.le_refl _, Nat.zero_le _, by simp, by simp, by simp⟩, by simpa [Loc.fp, Loc.blk] using Fr.nil _ _, ?_⟩
    · simp only [results, Tryd.results20]
      go_simp
    · first | exact (cutZ_no1 HBB.out).symm | exact (cutZ_no2 (by omega)).symm
    · exact (B1.out.setCell (by simp) _).setCell (by simp) _
  | true =>
    have HLB := Lib.hid ((logB_iff _).1 HBB.out)
    by_cases hn0 : n < 0
    · skip
      have z0 := frozen_of_row w1 (w.heap.size + 1) 0 _ _ HR1.out
      have z1 := frozen_of_row w1 (w.heap.size + 1) 1 _ _ HR1.out
      have pc0 := BP1.out.2 0 _ rfl
      have pc1 := BP1.out.2 1 _ rfl
      go_wp2_with fail
      refine bodyPost_ret (v := .agg #[.int .i64 0, .slice none 0 0]) ?_ rfl ⟨⟨0, ⟨none, 0, []⟩⟩, rfl, ?_, ⟨Nat.le_refl _, Nat.zero_le _, by simp, by simp, by simp⟩, by simpa [Loc.fp, Loc.blk] using Fr.nil _ _, ?_⟩
      · simp only [results, Tryd.results20]
        go_simp
      · first | exact (cutZ_no1 HBB.out).symm | exact (cutZ_no2 (by omega)).symm
      · exact (B1.out.setCell (by simp) _).setCell (by simp) _
    · have hnd : decide (n < 0) = false := decide_eq_false hn0
      go_wp2_with fail
      refine (HCO.out w1 X1.out (by have h4 : (xs.map LRec.er).length ≤ 40 := HLB.out.2.2.2.1; rw [List.length_map] at h4; exact Nat.le_trans h4 (by decide)) (logB_recsK HBB.out)).mono ?_
      rintro e w2 ⟨⟨cf, ⟨ca, cc, cs⟩⟩, rfl, hc, hcO, hcF, hb2⟩
      have HCE := Lib.hid (show (⟨cf, cs.map LRec.er⟩ : Log) = ⟨xf, xs.map LRec.er⟩ from hc)
      have CA2 := Lib.hid (show LLog.At w2 ⟨cf, ⟨ca, cc, cs⟩⟩ from Own.at_ hcO)
      have CF2 := Lib.hid (show Fr w1.heap.size w2 (Loc.fp (⟨ca, cc, cs⟩ : Loc LRec)) from Own.fr hcO hcF (Nat.le_refl _))
      have B2 := Lib.hid (B1.out.trans (hb2.mono B1.out.size))
      have BP2 := Lib.hid (BP1.out.keep hb2)
      have HR2 := Lib.hid ((hb2.block _ BP1.out.1).trans HR1.out)
      have HSZ2 := Lib.hid (Nat.le_trans HSZ1.out hb2.size)
      have hcf : cf = xf := congrArg Log.from_ HCE.out
      have hcl : cs.map LRec.er = xs.map LRec.er := congrArg Log.recs HCE.out
      have HCF := Lib.hid hcf
      have HCL := Lib.hid hcl
      have HCU := Lib.hid (l12Cut_any ⟨cf, ⟨ca, cc, cs⟩⟩ n w2 CA2.out (by rw [hcf]; exact ⟨HLB.out.1, HLB.out.2.1⟩) ⟨by omega, hn.2⟩)
      clear hc hcO hcF hb2 hcf hcl xc0 xc1
      go_wp2_with fail
      refine HCU.out.mono ?_
      rintro e w3 ⟨rfl, hb3⟩
      simp only
      have HPS := Lib.hid (show cs.length = xs.length by have := congrArg List.length HCL.out; simpa using this)
      have HPE := Lib.hid (show placeN cf n cs.length = placeN xf n xs.length by rw [HPS.out, HCF.out])
      generalize hp : placeN cf n cs.length = p at *
      have hyA := take_At (CA2.out.belowAll hb3) p
      have hyF := (CF2.out.belowAll hb3).sub (Loc.fp_take _ p)
      have hy : cs.map LRec.er = xs.map LRec.er := HCL.out
      have HYC := Lib.hid (show (⟨cf, (cs.take p).map LRec.er⟩ : Log) = cutZ n (LLog.er ⟨xf, ⟨xa, xc, xs⟩⟩) by
        rw [cutZ, if_pos ⟨HBB.out, by omega⟩]
        simp only [LLog.er, List.length_map, List.map_take, HCF.out, hy]
        rw [← hp, HCF.out, HPS.out])
      generalize hys : cs.take p = ys at *
      have HYA := Lib.hid hyA
      have HYF := Lib.hid hyF
      have B3 := Lib.hid (B2.out.trans (hb3.mono B2.out.size))
      have HRW := Lib.hid ((hb3.block _ BP2.out.1).trans HR2.out)
      have BP3 := Lib.hid (BP2.out.keep hb3)
      have SB := Lib.hid HSZ1.out
      have z0 := frozen_of_row _ (w.heap.size + 1) 0 _ _ HRW.out
      have z1 := frozen_of_row _ (w.heap.size + 1) 1 _ _ HRW.out
      have pc0 := BP3.out.2 0 _ rfl
      have pc1 := BP3.out.2 1 _ rfl
      simp only [LLog.val, Loc.val]
      clear hy hyA hyF hb3 hp hys
      go_wp2_with fail
      refine bodyPost_ret (v := .agg #[.int .i64 cf, .slice ca ys.length cc]) ?_ rfl ⟨⟨cf, ⟨ca, cc, ys⟩⟩, rfl, ?_, ?_, ?_, ?_⟩
      · simp only [results, Tryd.results20]
        go_simp
      · exact HYC.out
      · refine Loc.keep_At HYA.out fun b hb => ?_
        have h1 := HYF.out.ge b hb
        have h2 := SB.out
        rw [Below.heap_setCell _ _ _ _ (by simp only; omega), Below.heap_setCell _ _ _ _ (by simp only; omega)]
      · have h2 := SB.out
        exact ((HYF.out.set_low (by simp only; omega) _).set_low (by simp only; omega) _).mono (by omega)
      · exact (B3.out.setCell (by simp) _).setCell (by simp) _
end Go.Proofs.YtpgdelfdaalhbaaDoor
