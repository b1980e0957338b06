/- LogAdd of the reference. -/
import Derived.Test.YtpgdelfdaalhbaaDoorLogAdd
namespace Go.Proofs.YtpgdelfdaalhbaaDoor
open Go Go.RowKit

theorem AddPost.of {lo : Nat} {w w' : World} {p : Log × Bool} {z : LLog} {b : Bool} (h : p = (z.er, b)) (hA : z.At w') (hF : Fr lo w' z.recs.fp) (hB : Below w.heap.size w w') : AddPost lo w p (.returned (.tuple #[z.val, .bool b])) w' := by
  subst h; exact ⟨z, rfl, rfl, hA, hF, hB⟩
theorem logB_zero (ms : List Rec) : logB ⟨0, ms⟩ = true ↔ recsB ms = true ∧ ms.length ≤ 40 := by
  rw [logB_iff]; simp only; constructor
  · rintro ⟨-, -, -, h1, h2⟩; exact ⟨h2, h1⟩
  · rintro ⟨h1, h2⟩; exact ⟨by omega, by omega, by omega, h2, h1⟩
theorem recsB_K {l : List Rec} (h : recsB l = true) : recsK l := fun r hr => recB_sibs (List.all_eq_true.1 h r hr)

theorem addZ_room {l c : Log} {ms ds : List Rec} (h1 : logB l = true) (h2 : recsB ms = true ∧ ms.length ≤ 40) (hc : c = l) (hd : ds = ms) :
    (if roomZ c ds then ((⟨c.from_, c.recs ++ ds⟩ : Log), true) else (c, false)) = addZ l ms := by
  subst hc; subst hd
  exact (if_pos ⟨h1, h2⟩).symm

set_option maxRecDepth 100000 in
set_option maxHeartbeats 2000000 in
theorem sLogAdd_any (x : LLog) (y : Loc LRec) (w : World) (hx : x.At w) (hy : y.At w) :
    Calls Tryd.prog 24 #[x.val, y.val] w (AddPost w.heap.size w (addZ x.er (y.xs.map LRec.er))) := by
  have hy0 := hy
  have hB := ((Below.refl w.heap.size w).alloc (Nat.le_refl _) (Obj.cells #[.int .i64 x.from_, x.recs.val] 29)).alloc (by simp) (Obj.cells #[.int .i64 0, .slice none 0 0] 29)
  have b2 : Below (w.alloc (Obj.cells #[.int .i64 x.from_, x.recs.val] 29)).heap.size (w.alloc (Obj.cells #[.int .i64 x.from_, x.recs.val] 29)) ((w.alloc (Obj.cells #[.int .i64 x.from_, x.recs.val] 29)).alloc (Obj.cells #[.int .i64 0, .slice none 0 0] 29)) := (Below.refl _ _).alloc (Nat.le_refl _) _
  have hc := Lib.hid (sLogOk_any x _ (Loc.At.belowAll hx hB))
  have HX := Lib.hid (show LLog.At _ x from Loc.At.belowAll hx hB)
  have BX := Lib.hid ((Boxed.new w #[.int .i64 x.from_, x.recs.val] 29).keep b2)
  have BP := Lib.hid (Boxed.new (w.alloc (Obj.cells #[.int .i64 x.from_, x.recs.val] 29)) #[.int .i64 0, .slice none 0 0] 29)
  have HRP := Lib.hid (heap_alloc_new (w.alloc (Obj.cells #[.int .i64 x.from_, x.recs.val] 29)) (Obj.cells #[.int .i64 0, .slice none 0 0] 29))
  have HZ1 : (w.alloc (Obj.cells #[.int .i64 x.from_, x.recs.val] 29)).heap.size = w.heap.size + 1 := by simp
  rw [HZ1] at BP HRP
  have HZ2 : Hid (((w.alloc (Obj.cells #[.int .i64 x.from_, x.recs.val] 29)).alloc (Obj.cells #[.int .i64 0, .slice none 0 0] 29)).heap.size = w.heap.size + 2) := Lib.hid (by simp)
  have HB := Lib.hid hB
  generalize hb : logB x.er = b at hc
  have HBB := Lib.hid hb
  clear hb hB b2 HZ1 hx
  have HY := Lib.hid (show y.At _ from hy0.belowAll HB.out)
  have LY := Lib.hid (Loc.lt_of_At hy0)
  have HCO := Lib.hid (fun W (hW : x.At W) (h3 : x.recs.xs.length ≤ 1048576) (h4 : recsK (x.recs.xs.map LRec.er)) => l12Copy_any x W hW h3 h4)
  have HOY := Lib.hid (fun W (hW : y.At W) => sLogOk_any ⟨0, y⟩ W hW)
  have HRY := Lib.hid (fun W (hW : y.At W) (h3 : y.xs.length ≤ 1048576) (h4 : recsK (y.xs.map LRec.er)) => l12Recs_own y W hW h3 h4)
  generalize hxx : x = x' at *
  obtain ⟨xf, xa, xc, xs⟩ := x
  subst hxx
  obtain ⟨ya, yc, ys⟩ := y
  simp only [LLog.val, Loc.val] at hc HCO HOY HRY HX HY BX BP HRP HZ2 HB ⊢
  clear hy hy0
  go_enter Tryd.func24, Tryd.ntmps24
  go_wp2_with fail
  generalize (w.alloc (Obj.cells #[.int .i64 xf, .slice xa xs.length xc] 29)).alloc (Obj.cells #[.int .i64 0, .slice none 0 0] 29) = w0 at *
  refine hc.out.mono ?_
  rintro e w1 ⟨rfl, hb1⟩
  have B1 := Lib.hid (HB.out.trans (hb1.mono HB.out.size))
  have X1 := Lib.hid (LLog.below' HX.out hb1)
  have Y1 := Lib.hid (HY.out.belowAll hb1)
  have BX1 := Lib.hid (BX.out.keep hb1)
  have BP1 := Lib.hid (BP.out.keep hb1)
  have HR1 := Lib.hid ((hb1.block _ BP.out.1).trans HRP.out)
  have HSZ1 := Lib.hid (show w.heap.size + 2 ≤ w1.heap.size by have := hb1.size; have := HZ2.out; omega)
  have xc0 := BX1.out.2 0 _ rfl
  have xc1 := BX1.out.2 1 _ rfl
  clear hb1 hc
  cases b with
  | false =>
    have z0 := frozen_of_row _ (w.heap.size + 1) 0 _ _ HR1.out
    have z1 := frozen_of_row _ (w.heap.size + 1) 1 _ _ HR1.out
    have pc0 := BP1.out.2 0 _ rfl
    have pc1 := BP1.out.2 1 _ rfl
    go_wp2_with fail
    refine bodyPost_ret (v := .tuple #[.agg #[.int .i64 0, .slice none 0 0], .bool false]) ?_ rfl (AddPost.of (z := ⟨0, ⟨none, 0, []⟩⟩) (b := false) ?_ ⟨Nat.le_refl _, Nat.zero_le _, by simp, by simp, by simp⟩ (by simpa [Loc.fp, Loc.blk] using Fr.nil _ _) ?_)
    · simp only [results, Tryd.results24]
      go_simp
    · rw [addZ, if_neg (fun h => by have := HBB.out; rw [h.1] at this; cases this)]; rfl
    · exact (B1.out.setCell (by simp) _).setCell (by simp) _
  | true =>
    have HLB := Lib.hid ((logB_iff _).1 HBB.out)
    go_wp2_with fail
    refine (HOY.out w1 Y1.out).mono ?_
    rintro e w2 ⟨rfl, hb2⟩
    generalize hyb : logB (LLog.er ⟨0, ⟨ya, yc, ys⟩⟩) = c
    have HYB := Lib.hid hyb
    have B2 := Lib.hid (B1.out.trans (hb2.mono B1.out.size))
    have X2 := Lib.hid (LLog.below' X1.out hb2)
    have Y2 := Lib.hid (Y1.out.belowAll hb2)
    have BX2 := Lib.hid (BX1.out.keep hb2)
    have BP2 := Lib.hid (BP1.out.keep hb2)
    have HR2 := Lib.hid ((hb2.block _ BP1.out.1).trans HR1.out)
    have HSZ2 := Lib.hid (Nat.le_trans HSZ1.out hb2.size)
    clear hb2 hyb xc0 xc1 B1 X1 Y1 BX1 BP1 HR1 HSZ1 HOY
    cases c with
    | false =>
      have B1 := B2
      have BP1 := BP2
      have HR1 := HR2
      clear B2 BP2 HR2
      have z0 := frozen_of_row _ (w.heap.size + 1) 0 _ _ HR1.out
      have z1 := frozen_of_row _ (w.heap.size + 1) 1 _ _ HR1.out
      have pc0 := BP1.out.2 0 _ rfl
      have pc1 := BP1.out.2 1 _ rfl
      go_wp2_with fail
      refine bodyPost_ret (v := .tuple #[.agg #[.int .i64 0, .slice none 0 0], .bool false]) ?_ rfl (AddPost.of (z := ⟨0, ⟨none, 0, []⟩⟩) (b := false) ?_ ⟨Nat.le_refl _, Nat.zero_le _, by simp, by simp, by simp⟩ (by simpa [Loc.fp, Loc.blk] using Fr.nil _ _) ?_)
      · simp only [results, Tryd.results24]
        go_simp
      · rw [addZ, if_neg (fun h => by have h2 := (logB_zero (ys.map LRec.er)).2 h.2; have h3 : logB ⟨0, ys.map LRec.er⟩ = false := HYB.out; rw [h2] at h3; cases h3)]; rfl
      · exact (B1.out.setCell (by simp) _).setCell (by simp) _
    | true =>
      have HYR := Lib.hid ((logB_zero (ys.map LRec.er)).1 HYB.out)
      have HXL := Lib.hid (show xs.length ≤ 40 by have h4 : (xs.map LRec.er).length ≤ 40 := HLB.out.2.2.2.1; rwa [List.length_map] at h4)
      have HYL := Lib.hid (show ys.length ≤ 40 by have h4 := HYR.out.2; rwa [List.length_map] at h4)
      have xc0 := BX2.out.2 0 _ rfl
      have xc1 := BX2.out.2 1 _ rfl
      go_wp2_with fail
      refine (HCO.out w2 X2.out (Nat.le_trans HXL.out (by decide)) (logB_recsK HBB.out)).mono ?_
      rintro e w3 ⟨⟨cf, ⟨ca, cc, cs⟩⟩, rfl, hc, hcO, hcF, hb3⟩
      have HCE := Lib.hid (show (⟨cf, cs.map LRec.er⟩ : Log) = ⟨xf, xs.map LRec.er⟩ from hc)
      have CA3 := Lib.hid (show LLog.At w3 ⟨cf, ⟨ca, cc, cs⟩⟩ from Own.at_ hcO)
      have CF3 := Lib.hid (show Fr w2.heap.size w3 (Loc.fp (⟨ca, cc, cs⟩ : Loc LRec)) from Own.fr hcO hcF (Nat.le_refl _))
      have B3 := Lib.hid (B2.out.trans (hb3.mono B2.out.size))
      have Y3 := Lib.hid (Y2.out.belowAll hb3)
      have BP3 := Lib.hid (BP2.out.keep hb3)
      have HR3 := Lib.hid ((hb3.block _ BP2.out.1).trans HR2.out)
      have HSZ3 := Lib.hid hb3.size
      clear hc hcO hcF hb3 xc0 xc1 X2 Y2 BX2 B2 BP2 HR2
      simp only [LLog.val, Loc.val]
      go_wp2_with fail
      refine (HRY.out w3 Y3.out (Nat.le_trans HYL.out (by decide)) (recsB_K HYR.out.1)).mono ?_
      rintro e w4 ⟨⟨da, dc, ds⟩, rfl, hd, hdO, hdF, hb4⟩
      have HDE := Lib.hid (show ds.map LRec.er = ys.map LRec.er from hd)
      have DA4 := Lib.hid (Own.at_ hdO)
      have DF4 := Lib.hid (show Fr w3.heap.size w4 (Loc.fp (⟨da, dc, ds⟩ : Loc LRec)) from Own.fr hdO hdF (Nat.le_refl _))
      have CL3 := Lib.hid CF3.out.lt
      have CA4 := Lib.hid (LLog.below' CA3.out hb4)
      have CF4 := Lib.hid (CF3.out.belowAll hb4)
      have B4 := Lib.hid (B3.out.trans (hb4.mono B3.out.size))
      have BP4 := Lib.hid (BP3.out.keep hb4)
      have HR4 := Lib.hid ((hb4.block _ BP3.out.1).trans HR3.out)
      have HSZ4 := Lib.hid (Nat.le_trans HSZ3.out hb4.size)
      clear hd hdO hdF hb4 CA3 CF3 B3 Y3 BP3 HR3
      have hcf : cf = xf := congrArg Log.from_ HCE.out
      have hcl : cs.map LRec.er = xs.map LRec.er := congrArg Log.recs HCE.out
      have hcn : cs.length = xs.length := by have := congrArg List.length hcl; simpa using this
      have hdn : ds.length = ys.length := by have := congrArg List.length HDE.out; simpa using this
      have hadd := l12Add_any ⟨cf, ⟨ca, cc, cs⟩⟩ ⟨da, dc, ds⟩ w2.heap.size w4 CA4.out DA4.out CF4.out (DF4.out.mono HSZ3.out) (fun a ha b hb => by have h1 := CL3.out a ha; have h2 := DF4.out.ge b hb; omega) HSZ4.out
        (by rw [hcf]; exact ⟨HLB.out.1, HLB.out.2.1⟩) (by have := HXL.out; simp only; omega) (by have := HYL.out; simp only; omega)
      have hz : (if roomZ (LLog.er ⟨cf, ⟨ca, cc, cs⟩⟩) (ds.map LRec.er) then ((⟨cf, cs.map LRec.er ++ ds.map LRec.er⟩ : Log), true) else (LLog.er ⟨cf, ⟨ca, cc, cs⟩⟩, false)) = addZ (LLog.er ⟨xf, ⟨xa, xc, xs⟩⟩) (ys.map LRec.er) := by
        exact addZ_room HBB.out HYR.out HCE.out HDE.out
      simp only [LLog.val, Loc.val] at hadd
      rw [hz] at hadd
      have HADD := Lib.hid hadd
      clear hadd hz hcf hcl hcn hdn
      simp only [Loc.val]
      go_wp2_with fail
      refine HADD.out.mono ?_
      rintro e w5 ⟨⟨zf, ⟨za, zc, zs⟩⟩, rfl, hz, hzA, hzF, hb5⟩
      generalize hbz : (addZ (LLog.er ⟨xf, ⟨xa, xc, xs⟩⟩) (ys.map LRec.er)).2 = bz
      have HZE := Lib.hid (show addZ (LLog.er ⟨xf, ⟨xa, xc, xs⟩⟩) (ys.map LRec.er) = (LLog.er ⟨zf, ⟨za, zc, zs⟩⟩, bz) from Prod.ext hz.symm hbz)
      have HZA := Lib.hid hzA
      have HZF := Lib.hid hzF
      have B5 := Lib.hid (B4.out.trans (hb5.mono B4.out.size))
      have BP5 := Lib.hid (BP4.out.keep hb5)
      have HR5 := Lib.hid ((hb5.block _ BP4.out.1).trans HR4.out)
      clear hz hbz hzA hzF hb5 HADD B4 BP4 HR4
      have z0 := frozen_of_row _ (w.heap.size + 1) 0 _ _ HR5.out
      have z1 := frozen_of_row _ (w.heap.size + 1) 1 _ _ HR5.out
      have pc0 := BP5.out.2 0 _ rfl
      have pc1 := BP5.out.2 1 _ rfl
      simp only [LLog.val, Loc.val]
      go_wp2_with fail
      refine bodyPost_ret (v := .tuple #[.agg #[.int .i64 zf, .slice za zs.length zc], .bool bz]) ?_ rfl (AddPost.of (z := ⟨zf, ⟨za, zc, zs⟩⟩) (b := bz) HZE.out ?_ ?_ ?_)
      · simp only [results, Tryd.results24]
        go_simp
      · refine Loc.keep_At HZA.out fun b hb => ?_
        have h1 := HZF.out.ge b hb
        have h2 := HSZ2.out
        rw [Below.heap_setCell _ _ _ _ (by simp only; omega), Below.heap_setCell _ _ _ _ (by simp only; omega)]
      · have h2 := HSZ2.out
        exact ((HZF.out.set_low (by simp only; omega) _).set_low (by simp only; omega) _).mono (by omega)
      · exact (B5.out.setCell (by simp) _).setCell (by simp) _
end Go.Proofs.YtpgdelfdaalhbaaDoor
