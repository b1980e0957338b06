/- The walk of FnExactLogRest over located arguments. -/
import Derived.Test.YtpgdelfdaalhbaaDoorLogRest
import Derived.Test.YtpgdelfdaalhbaaDoorHeldR
import Derived.Test.YtpgdelfdaalhbaaDoorBox
namespace Go.Proofs.YtpgdelfdaalhbaaDoor
open Go Go.RowKit

theorem Boxed.touch {fp : List Nat} {a b : World} {p : Nat} {vs : List Value} (h : Boxed a p vs) (ht : Touch fp a b) (hp : p ∉ fp) : Boxed b p vs :=
  ⟨Nat.lt_of_lt_of_le h.1 ht.size, fun j v hv => (World.cell?_of_block (w := a) (a := ⟨p, j, none⟩) (ht.block p h.1 hp)).trans (h.2 j v hv)⟩

theorem LLog.below_ {w w' : World} {x : LLog} (h : x.At w) (hb : Below w.heap.size w w') : x.At w' := Loc.At.belowAll h hb
theorem LLog.keep_ {w w' : World} {x : LLog} (h : x.At w) (hk : ∀ b ∈ x.recs.fp, w'.heap[b]? = w.heap[b]?) : x.At w' := Loc.keep_At h hk

theorem lenR_le : ∀ l : List LRec, lenR (l.map LRec.er) ≤ 4 * bulkRecs l
  | [] => Nat.le_refl _
  | r :: l => by
    have h := lenR_le l
    have h2 := lenS_le r.sibs.xs
    simp only [List.map_cons, lenR, bulkRecs, List.length_cons, List.sum_cons, bulkRec] at h ⊢
    have : r.er.sibs = r.sibs.xs.map LSib.er := rfl
    rw [this]
    omega
theorem lenR_ok {l : List Rec} (h : recsK l) : lenR l ≤ 64 * l.length := by
  induction l with
  | nil => exact Nat.zero_le _
  | cons r l ih =>
    have h1 := ih fun x hx => h x (List.mem_cons_of_mem _ hx)
    have h2 := lenS_ok (h r List.mem_cons_self)
    simp only [lenR, List.length_cons]
    omega

set_option maxRecDepth 100000 in
theorem markLog_any (x : LLog) (k lo : Nat) (w : World) (hx : x.At w) (hf : Fr lo w x.recs.fp) (hk0 : 1 ≤ k) (hk : k + lenR (x.recs.xs.map LRec.er) ≤ 1099511627776) :
    Calls Tryd.prog 17 #[x.val, .int .i64 k] w (MarkPost lo x.recs ((k + lenR (x.recs.xs.map LRec.er) : Nat) : Int) (fun ys => ys.map LRec.er = markR k (x.recs.xs.map LRec.er)) w) := by
  have hB := (Below.refl w.heap.size w).alloc (Nat.le_refl _) (Obj.cells #[.int .i64 x.from_, x.recs.val] 29)
  have hc := Lib.hid (markRecS_any x.recs k lo _ (Loc.At.belowAll hx hB) (hf.belowAll hB) hk0 hk)
  obtain ⟨xf, xr⟩ := x
  simp only [LLog.val] at hc hB ⊢
  have HB := Lib.hid hB
  clear hB hx hf
  go_enter Tryd.func17, Tryd.ntmps17
  go_wp2_with fail
  refine hc.out.mono ?_
  rintro e w' ⟨ys, rfl, h1, h2, h3, h4, h5⟩
  have H := Lib.hid (show _ ∧ _ ∧ _ ∧ _ ∧ _ from ⟨h1, h2, h3, h4, (Touch.of_below _ HB.out).trans h5⟩)
  clear h1 h2 h3 h4 h5 hc
  go_wp2_with fail
  go_ret
  obtain ⟨h1, h2, h3, h4, h5⟩ := H.out
  exact ⟨ys, rfl, h1, h2, h3, h4, h5⟩

set_option maxRecDepth 100000 in
set_option maxHeartbeats 2000000 in
theorem exactLogRest_walk (x : LLog) (n : Int) (w : World) (hx : x.At w) (hn : -9223372036854775808 ≤ n ∧ n ≤ 9223372036854775807) :
    Calls Tryd.prog 3 #[x.val, .int .i64 n] w fun e w' => e = .returned (.bool true) ∧ Below w.heap.size w w' := by
  generalize hb : restZ n x.er = Z
  have HZ := Lib.hid hb
  have HNR := Lib.hid hn
  have LX0 := Lib.hid (Loc.lt_of_At hx)
  have HZK := Lib.hid (show recsK Z by rw [← hb]; exact restZ_k n _)
  clear hb hn
  obtain ⟨xf, xr⟩ := x
  simp only [LLog.val]
  have hB0 := (Below.refl w.heap.size w).alloc (Nat.le_refl _) (Obj.cells #[.int .i64 xf, xr.val] 24)
  have HX0 := Lib.hid (LLog.below_ hx hB0)
  have HB0 := Lib.hid hB0
  have BX0 := Lib.hid (Boxed.new w #[.int .i64 xf, xr.val] 24)
  clear hB0 hx
  go_enter Tryd.func3, Tryd.ntmps3
  go_wp2_with fail
  refine (szLog_any ⟨xf, xr⟩ 1048576 _ HX0.out (by decide)).mono ?_
  rintro e w1 ⟨⟨r, rfl, hr⟩, b1⟩
  have B1 := Lib.hid (HB0.out.trans (b1.mono (by simp)))
  have BX1 := Lib.hid (BX0.out.keep b1)
  have HX1 := Lib.hid (LLog.below_ HX0.out b1)
  have HR := Lib.hid hr
  clear hr b1 HX0
  by_cases hr0 : r < 0
  · go_wp2_with fail
    go_ret
    exact ⟨rfl, B1.out⟩
  · have HN : Hid (bulkLog ⟨xf, xr⟩ ≤ 1048576) := Lib.hid (by rcases HR.out with h | h <;> omega)
    have xc0 := BX1.out.2 0 _ rfl
    have xc1 := BX1.out.2 1 _ rfl
    go_wp2_with fail
    refine (toLog_any ⟨xf, xr⟩ w1 HX1.out HN.out).mono ?_
    rintro e w2 ⟨y, rfl, hy, hyA, -, b2⟩
    have B2 := Lib.hid (nextB B1.out b2)
    have BX2 := Lib.hid (BX1.out.keep b2)
    have HX2 := Lib.hid (LLog.below_ HX1.out b2)
    have HY := Lib.hid hy
    have HYA := Lib.hid hyA
    clear b2 hy hyA B1 HX1
    go_wp2_with fail
    refine (sLogRest_any y n w2 HYA.out HNR.out).mono ?_
    rintro e w3 ⟨v0, rfl, hv0, hvA, -, b3⟩
    have B3 := Lib.hid (nextB B2.out b3)
    have BX3 := Lib.hid (BX2.out.keep b3)
    have HX3 := Lib.hid (LLog.below_ HX2.out b3)
    have HV := Lib.hid (show v0.xs.map LRec.er = Z by rw [← HZ.out]; exact hv0.trans (congrArg (restZ n) HY.out))
    have HV3 := Lib.hid hvA
    clear b3 hv0 hvA B2 HX2 HYA
    have xc0 := BX3.out.2 0 _ rfl
    have xc1 := BX3.out.2 1 _ rfl
    go_wp2_with fail
    refine (toLog_any ⟨xf, xr⟩ w3 HX3.out HN.out).mono ?_
    rintro e w4 ⟨⟨zf, ⟨za, zc, zs⟩⟩, rfl, hz, hzA, hzF, b4⟩
    simp only [LLog.val, Loc.val]
    have B4 := nextB B3.out b4
    have hB4 := (Below.refl w4.heap.size w4).alloc (Nat.le_refl _) (Obj.cells #[.int .i64 zf, .slice za zs.length zc] 29)
    have BZ4 := Lib.hid (Boxed.new w4 #[.int .i64 zf, .slice za zs.length zc] 29)
    have HX4 := Lib.hid (LLog.below_ (LLog.below_ HX3.out b4) hB4)
    have HV4 := Lib.hid (Loc.At.belowAll (Loc.At.belowAll HV3.out b4) hB4)
    have HZE := Lib.hid hz
    have HZ4 := Lib.hid (LLog.below_ hzA hB4)
    have FZ4 := Lib.hid (hzF.belowAll hB4)
    have LZ := Lib.hid hzF.lt
    have LV := Lib.hid (Loc.lt_of_At HV3.out)
    have S3 := Lib.hid B3.out.size
    have S34 := Lib.hid b4.size
    have BX4 := Lib.hid ((BX3.out.keep b4).keep hB4)
    have B4' := Lib.hid (nextB B4 hB4)
    have S4 := Lib.hid B4.size
    have S44 := Lib.hid hB4.size
    clear hB4 b4 hz hzA hzF B3 HX3 HV3 B4
    go_wp2_with fail
    generalize w4.alloc (Obj.cells #[.int .i64 zf, .slice za zs.length zc] 29) = w4' at *
    refine (iLogRest_any ⟨zf, ⟨za, zc, zs⟩⟩ n w4' HZ4.out HNR.out).mono ?_
    rintro e w5 ⟨g, rfl, hg, hgA, hgF, b5⟩
    have B5 := Lib.hid (nextB B4'.out b5)
    have HX5 := Lib.hid (LLog.below_ HX4.out b5)
    have HV5 := Lib.hid (Loc.At.belowAll HV4.out b5)
    have HZ5 := Lib.hid (LLog.below_ HZ4.out b5)
    have FZ5 := Lib.hid (FZ4.out.belowAll b5)
    have BX5 := Lib.hid (BX4.out.keep b5)
    have BZ5 := Lib.hid (BZ4.out.keep b5)
    have HG := Lib.hid (show g.xs.map LRec.er = Z by rw [← HZ.out]; exact hg.trans (congrArg (restZ n) HZE.out))
    have HG5 := Lib.hid hgA
    have FG5 := Lib.hid hgF
    clear b5 hg hgA hgF B4' HX4 HV4 HZ4 FZ4
    go_wp2_with fail
    refine (eqRecS_any g v0 w5 HG5.out HV5.out).mono ?_
    rintro e w6 ⟨⟨q, rfl, hq⟩, b6⟩
    obtain rfl : q = true := hq.2 (HG.out.trans HV.out.symm)
    have B6 := Lib.hid (nextB B5.out b6)
    have HX6 := Lib.hid (LLog.below_ HX5.out b6)
    have HV6 := Lib.hid (Loc.At.belowAll HV5.out b6)
    have HZ6 := Lib.hid (LLog.below_ HZ5.out b6)
    have FZ6 := Lib.hid (FZ5.out.belowAll b6)
    have HG6 := Lib.hid (Loc.At.belowAll HG5.out b6)
    have FG6 := Lib.hid (FG5.out.belowAll b6)
    have BX6 := Lib.hid (BX5.out.keep b6)
    have BZ6 := Lib.hid (BZ5.out.keep b6)
    clear b6 hq B5 HX5 HV5 HZ5 FZ5 HG5 FG5
    have xc0 := BX6.out.2 0 _ rfl
    have xc1 := BX6.out.2 1 _ rfl
    have zc0 := BZ6.out.2 0 _ rfl
    have zc1 := BZ6.out.2 1 _ rfl
    go_wp2_with fail
    go_region_with (first
      | (go_at_call 13; refine (toLog_any ⟨xf, xr⟩ _ ?_ HN.out).mono ?_; exact LLog.keep_ HX6.out (fun _ _ => rfl); rintro e w7 ⟨t, rfl, ht, htA, -, b7⟩; have b7' : Below w6.heap.size w6 w7 := ⟨b7.os, b7.tape, b7.output, b7.size, b7.block⟩; have hz7 := LLog.below_ HZ6.out b7'; have bz7 := BZ6.out.keep b7'; have B7 := Lib.hid b7'; clear b7'; have HZ7 := Lib.hid hz7; have HT := Lib.hid ht; have HTA := Lib.hid htA; have yc0 := bz7.2 0 _ rfl; have yc1 := bz7.2 1 _ rfl; clear hz7 bz7 ht htA b7)
      | (go_at_call 16; refine (eqLog_any ⟨zf, ⟨za, zc, zs⟩⟩ t _ ?_ ?_).mono ?_; exact LLog.keep_ HZ7.out (fun _ _ => rfl); exact LLog.keep_ HTA.out (fun _ _ => rfl); rintro e w8 ⟨⟨v, rfl, hv⟩, b8⟩; obtain rfl : v = true := hv.2 (HZE.out.trans HT.out.symm); have B8 := Lib.hid (nextB B7.out (show Below w7.heap.size w7 w8 from ⟨b8.os, b8.tape, b8.output, b8.size, b8.block⟩)); clear b8 hv))
    all_goals
      have B8' := Lib.hid (nextB B6.out B8.out)
      have HX8 := Lib.hid (LLog.below_ HX6.out B8.out)
      have HV8 := Lib.hid (Loc.At.belowAll HV6.out B8.out)
      have HZ8 := Lib.hid (LLog.below_ HZ6.out B8.out)
      have FZ8 := Lib.hid (FZ6.out.belowAll B8.out)
      have HG8 := Lib.hid (Loc.At.belowAll HG6.out B8.out)
      have FG8 := Lib.hid (FG6.out.belowAll B8.out)
      have BX8 := Lib.hid (BX6.out.keep B8.out)
      have BZ8 := Lib.hid (BZ6.out.keep B8.out)
      clear B6 HX6 HV6 HZ6 FZ6 HG6 FG6 B7 HZ7 HT HTA B8
      have zc0 := BZ8.out.2 0 _ rfl
      have zc1 := BZ8.out.2 1 _ rfl
      have hzl : lenR (zs.map LRec.er) ≤ 4 * 1048576 := by
        have h := lenR_le xr.xs
        have h2 := HN.out
        simp only [bulkLog] at h2
        have h3 : zs.map LRec.er = xr.xs.map LRec.er := congrArg Log.recs HZE.out
        rw [h3]; omega
      have hm0 := markLog_any ⟨zf, ⟨za, zc, zs⟩⟩ 1 w.heap.size w8 HZ8.out (FZ8.out.mono S3.out) (Nat.le_refl _) (by simp only; omega)
      have HM0 := Lib.hid hm0
      simp only [LLog.val, Loc.val] at HM0
      have hmb : 1 + lenR (zs.map LRec.er) ≤ 1099511627776 := by omega
      generalize hke : 1 + lenR (zs.map LRec.er) = kk at *
      clear hm0 hke hzl
      go_wp2_with fail
      refine HM0.out.mono ?_
      rintro e w9 ⟨zs', rfl, -, -, -, -, hT⟩
      have B9 := Lib.hid (B8'.out.trans (hT.below B8'.out.size (fun b hb => by have := FZ8.out.ge b hb; have := S3.out; omega)))
      have HX9 := Lib.hid (show LLog.At w9 ⟨xf, xr⟩ from hT.keepLoc HX8.out (fun b hb hb2 => by have := LX0.out b hb; have := FZ8.out.ge b hb2; have := S3.out; omega))
      have HV9 := Lib.hid (hT.keepLoc HV8.out (fun b hb hb2 => by have := LV.out b hb; have := FZ8.out.ge b hb2; omega))
      have HG9 := Lib.hid (hT.keepLoc HG8.out (fun b hb hb2 => by have := FG8.out.ge b hb; have := LZ.out b hb2; have := S44.out; omega))
      have FG9 := Lib.hid (hT.keepFr FG8.out (fun b hb hb2 => by have := FG8.out.ge b hb; have := LZ.out b hb2; have := S44.out; omega))
      have BX9 := Lib.hid (BX8.out.touch hT (fun hb2 => by have := FZ8.out.ge _ hb2; have := BX3.out.1; omega))
      clear hT B8' HX8 HV8 HZ8 FZ8 HG8 FG8 HM0
      have hkn : ¬ ((kk : Nat) : Int) < 0 := by omega
      have hkd : decide (((kk : Nat) : Int) < 0) = false := decide_eq_false hkn
      go_wp2_with fail
      refine (eqRecS_any g v0 w9 HG9.out HV9.out).mono ?_
      rintro e w10 ⟨⟨q, rfl, hq⟩, b10⟩
      obtain rfl : q = true := hq.2 (HG.out.trans HV.out.symm)
      have B10 := Lib.hid (nextB B9.out b10)
      have HX10 := Lib.hid (LLog.below_ HX9.out b10)
      have HV10 := Lib.hid (Loc.At.belowAll HV9.out b10)
      have HG10 := Lib.hid (Loc.At.belowAll HG9.out b10)
      have FG10 := Lib.hid (FG9.out.belowAll b10)
      have BX10 := Lib.hid (BX9.out.keep b10)
      clear b10 hq B9 HX9 HV9 HG9 FG9 hkn hkd hmb
      have hlz : lenR Z ≤ 4 * 1048576 := by
        have h := lenR_le xr.xs
        have h2 := HN.out
        simp only [bulkLog] at h2
        have h3 : Z.length ≤ xr.xs.length := by rw [← HZ.out, restZ]; split <;> simp [LLog.er]
        have h4 := lenR_ok HZK.out
        have h5 : Z.length ≤ 40 := by
          rw [← HZ.out, restZ]
          split
          · rename_i hh
            have := ((logB_iff _).1 hh.1).2.2.2.1
            rw [List.length_drop]; omega
          · simp
        omega
      have hmg := markRecS_any g 1 w.heap.size w10 HG10.out (FG10.out.mono (by have := S4.out; have := S44.out; omega)) (Nat.le_refl _) (by rw [show g.xs.map LRec.er = Z from HG.out]; omega)
      rw [show g.xs.map LRec.er = Z from HG.out] at hmg
      have HMG := Lib.hid hmg
      generalize hme : 1 + lenR Z = mm at *
      have hmm : mm ≤ 5000000 := by omega
      have HME := Lib.hid hme
      clear hmg hlz hme
      go_wp2_with fail
      refine HMG.out.mono ?_
      rintro e w11 ⟨gs, rfl, hgs, hgf, hgA, -, hT⟩
      have B11 := Lib.hid (B10.out.trans (hT.below B10.out.size (fun b hb => by have := FG10.out.ge b hb; have := S4.out; have := S44.out; omega)))
      have HX11 := Lib.hid (show LLog.At w11 ⟨xf, xr⟩ from hT.keepLoc HX10.out (fun b hb hb2 => by have := LX0.out b hb; have := FG10.out.ge b hb2; have := S4.out; have := S44.out; omega))
      have HV11 := Lib.hid (hT.keepLoc HV10.out (fun b hb hb2 => by have := LV.out b hb; have := FG10.out.ge b hb2; have := S34.out; have := S44.out; omega))
      have BX11 := Lib.hid (BX10.out.touch hT (fun hb2 => by have := FG10.out.ge _ hb2; have := BX3.out.1; have := S34.out; have := S44.out; omega))
      have HGS := Lib.hid (show (g.re gs).xs.map LRec.er = markR 1 Z from hgs)
      have HGA11 := Lib.hid hgA
      have HVAL : Hid ((g.re gs).val = g.val) := Lib.hid (by
        have := congrArg List.length hgf
        simp only [List.length_map] at this
        simp only [Loc.val, Loc.re, this])
      have HH : Hid (∀ W, (g.re gs).At W → Calls Tryd.prog 19 #[g.val, .int .i64 1] W fun e w' => e = .returned (.int .i64 (mm : Int)) ∧ Below W.heap.size W w') := Lib.hid (fun W hW => by
        have h := heldRecS_any (g.re gs) 1 Z W hW HGS.out (Nat.le_refl _) (by have := HME.out; omega)
        rw [HME.out, show (g.re gs).val = g.val from HVAL.out] at h
        exact h)
      clear hT hgs hgf hgA B10 HX10 HV10 HG10 FG10 HMG
      have hmn : ¬ ((mm : Nat) : Int) < 0 := by omega
      have hmne : (((mm : Nat) : Int) != ((mm : Nat) : Int)) = false := by simp
      go_wp2_with fail
      refine (HH.out w11 HGA11.out).mono ?_
      rintro e w12 ⟨rfl, b12⟩
      have B12 := Lib.hid (nextB B11.out b12)
      have HX12 := Lib.hid (LLog.below_ HX11.out b12)
      have HV12 := Lib.hid (Loc.At.belowAll HV11.out b12)
      have HGA12 := Lib.hid (Loc.At.belowAll HGA11.out b12)
      have BX12 := Lib.hid (BX11.out.keep b12)
      clear b12 B11 HX11 HV11 HGA11
      have xc0 := BX12.out.2 0 _ rfl
      have xc1 := BX12.out.2 1 _ rfl
      go_wp2_with fail
      refine (toLog_any ⟨xf, xr⟩ w12 HX12.out HN.out).mono ?_
      rintro e w13 ⟨u, rfl, hu, huA, -, b13⟩
      have B13 := Lib.hid (nextB B12.out b13)
      have HV13 := Lib.hid (Loc.At.belowAll HV12.out b13)
      have HGA13 := Lib.hid (Loc.At.belowAll HGA12.out b13)
      have HU := Lib.hid hu
      have HUA := Lib.hid huA
      clear b13 hu huA B12 HX12 HV12 HGA12
      go_wp2_with fail
      refine (iLogRest_any u n w13 HUA.out HNR.out).mono ?_
      rintro e w14 ⟨h, rfl, hh, hhA, -, b14⟩
      have B14 := Lib.hid (nextB B13.out b14)
      have HV14 := Lib.hid (Loc.At.belowAll HV13.out b14)
      have HGA14 := Lib.hid (Loc.At.belowAll HGA13.out b14)
      have HHE := Lib.hid (show h.xs.map LRec.er = Z by rw [← HZ.out]; exact hh.trans (congrArg (restZ n) HU.out))
      have HHA := Lib.hid hhA
      clear b14 hh hhA B13 HV13 HGA13
      go_wp2_with fail
      refine (eqRecS_any h v0 w14 HHA.out HV14.out).mono ?_
      rintro e w15 ⟨⟨q, rfl, hq⟩, b15⟩
      obtain rfl : q = true := hq.2 (HHE.out.trans HV.out.symm)
      have B15 := Lib.hid (nextB B14.out b15)
      have HGA15 := Lib.hid (Loc.At.belowAll HGA14.out b15)
      clear b15 hq B14 HV14 HGA14
      go_wp2_with fail
      refine (HH.out w15 HGA15.out).mono ?_
      rintro e w16 ⟨rfl, b16⟩
      have B16 := Lib.hid (nextB B15.out b16)
      clear b16 B15 HGA15
      go_wp2_with fail
      go_ret
      exact ⟨rfl, B16.out⟩
end Go.Proofs.YtpgdelfdaalhbaaDoor
