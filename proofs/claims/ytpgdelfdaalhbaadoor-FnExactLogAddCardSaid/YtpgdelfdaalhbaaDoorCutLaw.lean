/- The walks of FnExactLogCut and its likes over located arguments. -/
import Derived.Test.YtpgdelfdaalhbaaDoorLogCut3
import Derived.Test.YtpgdelfdaalhbaaDoorRestLaw
namespace Go.Proofs.YtpgdelfdaalhbaaDoor
open Go Go.RowKit

theorem cutZ_k (n : Int) (l : Log) : recsK (cutZ n l).recs ∧ (cutZ n l).recs.length ≤ 40 := by
  rw [cutZ]
  split
  · rename_i h
    have h2 := (logB_iff _).1 h.1
    exact ⟨fun r hr => logB_recsK h.1 r (List.mem_of_mem_take hr), by have := h2.2.2.2.1; simp only [List.length_take]; omega⟩
  · exact ⟨fun r hr => (by simp at hr), Nat.zero_le _⟩

set_option maxRecDepth 100000 in
theorem heldLog_any (x : LLog) (k : Nat) (L : List Rec) (w : World) (hx : x.At w) (hc : x.recs.xs.map LRec.er = markR k L) (hk0 : 1 ≤ k) (hk : k + lenR L ≤ 1099511627776) :
    Calls Tryd.prog 22 #[x.val, .int .i64 k] w fun e w' => e = .returned (.int .i64 ((k + lenR L : Nat) : Int)) ∧ Below w.heap.size w w' := by
  have hB := (Below.refl w.heap.size w).alloc (Nat.le_refl _) (Obj.cells #[.int .i64 x.from_, x.recs.val] 29)
  have hh := Lib.hid (heldRecS_any x.recs k L _ (Loc.At.belowAll hx hB) hc hk0 hk)
  obtain ⟨xf, xr⟩ := x
  simp only [LLog.val] at hh hB ⊢
  have HB := Lib.hid hB
  clear hB hx hc
  go_enter Tryd.func22, Tryd.ntmps22
  go_wp2_with fail
  refine hh.out.mono ?_
  rintro e w' ⟨rfl, b⟩
  have H := Lib.hid (HB.out.trans (b.mono HB.out.size))
  clear b hh
  go_wp2_with fail
  go_ret
  exact ⟨rfl, H.out⟩

set_option maxRecDepth 100000 in
set_option maxHeartbeats 2000000 in
theorem exactLogCut_walk (x : LLog) (n : Int) (w : World) (hx : x.At w) (hn : -9223372036854775808 ≤ n ∧ n ≤ 9223372036854775807) :
    Calls Tryd.prog 4 #[x.val, .int .i64 n] w fun e w' => e = .returned (.bool true) ∧ Below w.heap.size w w' := by
  generalize hb : cutZ n x.er = Z
  have HZ := Lib.hid hb
  have HNR := Lib.hid hn
  have LX0 := Lib.hid (Loc.lt_of_At hx)
  have HZK := Lib.hid (show recsK Z.recs ∧ Z.recs.length ≤ 40 by rw [← hb]; exact cutZ_k n _)
  clear hb hn
  obtain ⟨xf, xr⟩ := x
  simp only [LLog.val]
  have hB0 := (Below.refl w.heap.size w).alloc (Nat.le_refl _) (Obj.cells #[.int .i64 xf, xr.val] 24)
  have HX0 := Lib.hid (LLog.below_ hx hB0)
  have B0 := Lib.hid hB0
  have BX0 := Lib.hid (Boxed.new w #[.int .i64 xf, xr.val] 24)
  have HS0 := Lib.hid (show (w.alloc (Obj.cells #[.int .i64 xf, xr.val] 24)).heap.size = w.heap.size + 1 by simp)
  clear hB0 hx
  go_enter Tryd.func4, Tryd.ntmps4
  go_wp2_with fail
  generalize w.alloc (Obj.cells #[.int .i64 xf, xr.val] 24) = w0 at *
  refine (szLog_any ⟨xf, xr⟩ 1048576 _ HX0.out (by decide)).mono ?_
  rintro e w1 ⟨⟨r, rfl, hr⟩, b1⟩
  have S1 := Lib.hid (show w.heap.size + 1 ≤ w1.heap.size by have := b1.size; have := HS0.out; omega)
  have B1 := Lib.hid (nextB B0.out b1)
  have HX1 := Lib.hid (LLog.below_ HX0.out b1)
  have BX1 := Lib.hid (BX0.out.keep b1)
  clear B0 HX0 BX0
  have HR := Lib.hid hr
  clear hr b1 HS0
  by_cases hr0 : r < 0
  · go_wp2_with fail
    go_ret
    exact ⟨rfl, B1.out⟩
  · have HN : Hid (bulkLog ⟨xf, xr⟩ ≤ 1048576) := Lib.hid (by rcases HR.out with h | h <;> omega)
    have xc0 := BX1.out.2 0 _ rfl
    have xc1 := BX1.out.2 1 _ rfl
    go_wp2_with fail
    refine (toLog_any ⟨xf, xr⟩ w1 HX1.out HN.out).mono ?_
    rintro e w2 ⟨y, rfl, hy, hyA, -, b2⟩
    have HY := Lib.hid hy
    have HYA := Lib.hid hyA
    have S2 := Lib.hid b2.size
    have B2 := Lib.hid (nextB B1.out b2)
    have HX2 := Lib.hid (LLog.below_ HX1.out b2)
    have BX2 := Lib.hid (BX1.out.keep b2)
    clear B1 HX1 BX1
    clear b2 hy hyA
    go_wp2_with fail
    refine (sLogCut_any y n w2 HYA.out HNR.out).mono ?_
    rintro e w3' ⟨⟨vf, ⟨va, vc, vs⟩⟩, rfl, hv, hvA, -, b3⟩
    simp only [LLog.val, Loc.val]
    have S3 := Lib.hid (show w.heap.size + 1 ≤ w3'.heap.size by have := b3.size; have := S1.out; have := S2.out; omega)
    have LV := Lib.hid (Loc.lt_of_At hvA)
    have hB3 := (Below.refl w3'.heap.size w3').alloc (Nat.le_refl _) (Obj.cells #[.int .i64 vf, .slice va vs.length vc] 29)
    have hB3' : Below w2.heap.size w2 _ := b3.trans (hB3.mono b3.size)
    have B3 := Lib.hid (nextB B2.out hB3')
    have HX3 := Lib.hid (LLog.below_ HX2.out hB3')
    have BX3 := Lib.hid (BX2.out.keep hB3')
    clear B2 HX2 BX2
    have HV := Lib.hid (show LLog.er ⟨vf, ⟨va, vc, vs⟩⟩ = Z by rw [← HZ.out, hv, HY.out])
    have HV3 := Lib.hid (LLog.below_ hvA hB3)
    have BV3 := Lib.hid (Boxed.new w3' #[.int .i64 vf, .slice va vs.length vc] 29)
    have S3' := Lib.hid (show (w3'.alloc (Obj.cells #[.int .i64 vf, .slice va vs.length vc] 29)).heap.size = w3'.heap.size + 1 by simp)
    clear b3 hv hvA HYA hB3 hB3' S1 S2
    have xc0 := BX3.out.2 0 _ rfl
    have xc1 := BX3.out.2 1 _ rfl
    go_wp2_with fail
    generalize w3'.alloc (Obj.cells #[.int .i64 vf, .slice va vs.length vc] 29) = w3 at *
    clear xc0 xc1
    refine (toLog_any ⟨xf, xr⟩ w3 HX3.out HN.out).mono ?_
    rintro e w4' ⟨⟨zf, ⟨za, zc, zs⟩⟩, rfl, hz, hzA, hzF, b4⟩
    simp only [LLog.val, Loc.val]
    have LZ := Lib.hid hzF.lt
    have S4 := Lib.hid b4.size
    have hB4 := (Below.refl w4'.heap.size w4').alloc (Nat.le_refl _) (Obj.cells #[.int .i64 zf, .slice za zs.length zc] 29)
    have hB4' : Below w3.heap.size w3 _ := b4.trans (hB4.mono b4.size)
    have B4 := Lib.hid (nextB B3.out hB4')
    have HX4 := Lib.hid (LLog.below_ HX3.out hB4')
    have BX4 := Lib.hid (BX3.out.keep hB4')
    clear B3 HX3 BX3
    have HV4 := Lib.hid (LLog.below_ HV3.out hB4')
    have BV4 := Lib.hid (BV3.out.keep hB4')
    clear HV3 BV3
    have HZE := Lib.hid hz
    have HZ4 := Lib.hid (LLog.below_ hzA hB4)
    have FZ4 := Lib.hid (hzF.belowAll hB4)
    have BZ4 := Lib.hid (Boxed.new w4' #[.int .i64 zf, .slice za zs.length zc] 29)
    have S4' := Lib.hid (show (w4'.alloc (Obj.cells #[.int .i64 zf, .slice za zs.length zc] 29)).heap.size = w4'.heap.size + 1 by simp)
    clear hB4 hB4' b4 hz hzA hzF
    have zc0 := BZ4.out.2 0 _ rfl
    have zc1 := BZ4.out.2 1 _ rfl
    go_wp2_with fail
    generalize w4'.alloc (Obj.cells #[.int .i64 zf, .slice za zs.length zc] 29) = w4 at *
    clear zc0 zc1
    refine (iLogCut_any ⟨zf, ⟨za, zc, zs⟩⟩ n w4 HZ4.out HNR.out).mono ?_
    rintro e w5' ⟨⟨gf, ⟨ga, gc, gs⟩⟩, rfl, hg, hgA, hgF, b5⟩
    simp only [LLog.val, Loc.val]
    have LG := Lib.hid hgF.lt
    have S5 := Lib.hid b5.size
    have hB5 := (Below.refl w5'.heap.size w5').alloc (Nat.le_refl _) (Obj.cells #[.int .i64 gf, .slice ga gs.length gc] 29)
    have hB5' : Below w4.heap.size w4 _ := b5.trans (hB5.mono b5.size)
    have B5 := Lib.hid (nextB B4.out hB5')
    have HX5 := Lib.hid (LLog.below_ HX4.out hB5')
    have BX5 := Lib.hid (BX4.out.keep hB5')
    clear B4 HX4 BX4
    have HV5 := Lib.hid (LLog.below_ HV4.out hB5')
    have BV5 := Lib.hid (BV4.out.keep hB5')
    clear HV4 BV4
    have HZ5 := Lib.hid (LLog.below_ HZ4.out hB5')
    have FZ5 := Lib.hid (FZ4.out.belowAll hB5')
    have BZ5 := Lib.hid (BZ4.out.keep hB5')
    clear HZ4 FZ4 BZ4
    have HG := Lib.hid (show LLog.er ⟨gf, ⟨ga, gc, gs⟩⟩ = Z by rw [← HZ.out, hg, HZE.out])
    have HG5 := Lib.hid (LLog.below_ hgA hB5)
    have FG5 := Lib.hid (hgF.belowAll hB5)
    have BG5 := Lib.hid (Boxed.new w5' #[.int .i64 gf, .slice ga gs.length gc] 29)
    clear hB5 hB5' b5 hg hgA hgF
    have gc0 := BG5.out.2 0 _ rfl
    have gc1 := BG5.out.2 1 _ rfl
    have vc0 := BV5.out.2 0 _ rfl
    have vc1 := BV5.out.2 1 _ rfl
    go_wp2_with fail
    generalize w5'.alloc (Obj.cells #[.int .i64 gf, .slice ga gs.length gc] 29) = w5 at *
    clear gc0 gc1 vc0 vc1
    refine (eqLog_any ⟨gf, ⟨ga, gc, gs⟩⟩ ⟨vf, ⟨va, vc, vs⟩⟩ w5 HG5.out HV5.out).mono ?_
    rintro e w6 ⟨⟨q, rfl, hq⟩, b6⟩
    obtain rfl : q = true := hq.2 (HG.out.trans HV.out.symm)
    have B6 := Lib.hid (nextB B5.out b6)
    have HX6 := Lib.hid (LLog.below_ HX5.out b6)
    have BX6 := Lib.hid (BX5.out.keep b6)
    clear B5 HX5 BX5
    have HV6 := Lib.hid (LLog.below_ HV5.out b6)
    have BV6 := Lib.hid (BV5.out.keep b6)
    clear HV5 BV5
    have HZ6 := Lib.hid (LLog.below_ HZ5.out b6)
    have FZ6 := Lib.hid (FZ5.out.belowAll b6)
    have BZ6 := Lib.hid (BZ5.out.keep b6)
    clear HZ5 FZ5 BZ5
    have HG6 := Lib.hid (LLog.below_ HG5.out b6)
    have FG6 := Lib.hid (FG5.out.belowAll b6)
    have BG6 := Lib.hid (BG5.out.keep b6)
    clear HG5 FG5 BG5
    clear b6 hq
    have xc0 := BX6.out.2 0 _ rfl
    have xc1 := BX6.out.2 1 _ rfl
    have zc0 := BZ6.out.2 0 _ rfl
    have zc1 := BZ6.out.2 1 _ rfl
    go_wp2_with fail
    go_region_with (first
      | (go_at_call 13; refine (toLog_any ⟨xf, xr⟩ _ ?_ HN.out).mono ?_; exact LLog.keep_ HX6.out (fun _ _ => rfl); rintro e w7 ⟨t, rfl, ht, htA, -, b7⟩; have b7' : Below w6.heap.size w6 w7 := ⟨b7.os, b7.tape, b7.output, b7.size, b7.block⟩; have hz7 := LLog.below_ HZ6.out b7'; have bz7 := BZ6.out.keep b7'; have B7 := Lib.hid b7'; clear b7'; have HZ7 := Lib.hid hz7; have HT := Lib.hid ht; have HTA := Lib.hid htA; have yc0 := bz7.2 0 _ rfl; have yc1 := bz7.2 1 _ rfl; clear hz7 bz7 ht htA b7)
      | (go_at_call 16; refine (eqLog_any ⟨zf, ⟨za, zc, zs⟩⟩ t _ ?_ ?_).mono ?_; exact LLog.keep_ HZ7.out (fun _ _ => rfl); exact LLog.keep_ HTA.out (fun _ _ => rfl); rintro e w8 ⟨⟨v, rfl, hv⟩, b8⟩; obtain rfl : v = true := hv.2 (HZE.out.trans HT.out.symm); have B8 := Lib.hid (nextB B7.out (show Below w7.heap.size w7 w8 from ⟨b8.os, b8.tape, b8.output, b8.size, b8.block⟩)); clear b8 hv))
    all_goals
      have b8 := B8.out
      clear B8
      have B8 := Lib.hid (nextB B6.out b8)
      have HX8 := Lib.hid (LLog.below_ HX6.out b8)
      have BX8 := Lib.hid (BX6.out.keep b8)
      clear B6 HX6 BX6
      have HV8 := Lib.hid (LLog.below_ HV6.out b8)
      have BV8 := Lib.hid (BV6.out.keep b8)
      clear HV6 BV6
      have HZ8 := Lib.hid (LLog.below_ HZ6.out b8)
      have FZ8 := Lib.hid (FZ6.out.belowAll b8)
      have BZ8 := Lib.hid (BZ6.out.keep b8)
      clear HZ6 FZ6 BZ6
      have HG8 := Lib.hid (LLog.below_ HG6.out b8)
      have FG8 := Lib.hid (FG6.out.belowAll b8)
      have BG8 := Lib.hid (BG6.out.keep b8)
      clear HG6 FG6 BG6
      clear B7 HZ7 HT HTA b8
      have zc0 := BZ8.out.2 0 _ rfl
      have zc1 := BZ8.out.2 1 _ rfl
      have hzl : lenR (zs.map LRec.er) ≤ 4 * 1048576 := by
        have h := lenR_le xr.xs
        have h2 := HN.out
        simp only [bulkLog] at h2
        have h3 : zs.map LRec.er = xr.xs.map LRec.er := congrArg Log.recs HZE.out
        rw [h3]; omega
      have hm0 := markLog_any ⟨zf, ⟨za, zc, zs⟩⟩ 1 w.heap.size w8 HZ8.out (FZ8.out.mono (by have := S3.out; have := S3'.out; omega)) (Nat.le_refl _) (by simp only; omega)
      have HM0 := Lib.hid hm0
      simp only [LLog.val, Loc.val] at HM0
      have hmb : 1 + lenR (zs.map LRec.er) ≤ 1099511627776 := by omega
      generalize hke : 1 + lenR (zs.map LRec.er) = kk at *
      clear hm0 hke hzl
      go_wp2_with fail
      clear zc0 zc1
      refine HM0.out.mono ?_
      rintro e w9 ⟨zs', rfl, -, -, -, -, hT⟩
      have HT9 := Lib.hid hT
      clear hT
      have SZ := Lib.hid (show ∀ b ∈ (⟨za, zc, zs⟩ : Loc LRec).fp, w3'.heap.size + 1 ≤ b ∧ b < w4'.heap.size from fun b hb => ⟨by have := FZ8.out.ge b hb; have := S3'.out; omega, LZ.out b hb⟩)
      have B9 := Lib.hid (B8.out.trans (HT9.out.below B8.out.size (fun b hb => by have := (SZ.out b hb).1; have := S3.out; omega)))
      have HX9 := Lib.hid (show LLog.At w9 ⟨xf, xr⟩ from HT9.out.keepLoc HX8.out (fun b hb hb2 => by have := LX0.out b hb; have := (SZ.out b hb2).1; have := S3.out; omega))
      have HV9 := Lib.hid (show LLog.At w9 ⟨vf, ⟨va, vc, vs⟩⟩ from HT9.out.keepLoc HV8.out (fun b hb hb2 => by have := LV.out b hb; have := (SZ.out b hb2).1; omega))
      have HG9 := Lib.hid (show LLog.At w9 ⟨gf, ⟨ga, gc, gs⟩⟩ from HT9.out.keepLoc HG8.out (fun b hb hb2 => by have := FG8.out.ge b hb; have := (SZ.out b hb2).2; have := S4'.out; omega))
      have FG9 := Lib.hid (HT9.out.keepFr FG8.out (fun b hb hb2 => by have := FG8.out.ge b hb; have := (SZ.out b hb2).2; have := S4'.out; omega))
      have BX9 := Lib.hid (BX8.out.touch HT9.out (fun hb2 => by have := (SZ.out _ hb2).1; have := S3.out; omega))
      have BV9 := Lib.hid (BV8.out.touch HT9.out (fun hb2 => by have := (SZ.out _ hb2).1; omega))
      have BG9 := Lib.hid (BG8.out.touch HT9.out (fun hb2 => by have := (SZ.out _ hb2).2; have := S4'.out; have := S5.out; omega))
      clear HT9 SZ B8 HX8 BX8 HV8 BV8 HZ8 FZ8 BZ8 HG8 FG8 BG8 HM0
      have hkn : ¬ ((kk : Nat) : Int) < 0 := by omega
      have hkd : decide (((kk : Nat) : Int) < 0) = false := decide_eq_false hkn
      have gc0 := BG9.out.2 0 _ rfl
      have gc1 := BG9.out.2 1 _ rfl
      have vc0 := BV9.out.2 0 _ rfl
      have vc1 := BV9.out.2 1 _ rfl
      go_wp2_with fail
      clear gc0 gc1 vc0 vc1
      refine (eqLog_any ⟨gf, ⟨ga, gc, gs⟩⟩ ⟨vf, ⟨va, vc, vs⟩⟩ w9 HG9.out HV9.out).mono ?_
      rintro e w10 ⟨⟨q, rfl, hq⟩, b10⟩
      obtain rfl : q = true := hq.2 (HG.out.trans HV.out.symm)
      have B10 := Lib.hid (nextB B9.out b10)
      have HX10 := Lib.hid (LLog.below_ HX9.out b10)
      have BX10 := Lib.hid (BX9.out.keep b10)
      clear B9 HX9 BX9
      have HV10 := Lib.hid (LLog.below_ HV9.out b10)
      have BV10 := Lib.hid (BV9.out.keep b10)
      clear HV9 BV9
      have HG10 := Lib.hid (LLog.below_ HG9.out b10)
      have FG10 := Lib.hid (FG9.out.belowAll b10)
      have BG10 := Lib.hid (BG9.out.keep b10)
      clear HG9 FG9 BG9
      clear b10 hq hkn hkd hmb
      have HGR := Lib.hid (show gs.map LRec.er = Z.recs from congrArg Log.recs HG.out)
      have hlz : lenR Z.recs ≤ 4 * 1048576 := by
        have h4 := lenR_ok HZK.out.1
        have h5 := HZK.out.2
        omega
      have hmg := markLog_any ⟨gf, ⟨ga, gc, gs⟩⟩ 1 w.heap.size w10 HG10.out (FG10.out.mono (by have := S3.out; have := S3'.out; have := S4.out; have := S4'.out; omega)) (Nat.le_refl _) (by simp only; rw [HGR.out]; omega)
      simp only at hmg
      rw [HGR.out] at hmg
      have HMG := Lib.hid hmg
      simp only [LLog.val, Loc.val] at HMG
      generalize hme : 1 + lenR Z.recs = mm at *
      have hmm : mm ≤ 5000000 := by omega
      have HME := Lib.hid hme
      clear hmg hlz hme
      have gc0 := BG10.out.2 0 _ rfl
      have gc1 := BG10.out.2 1 _ rfl
      go_wp2_with fail
      clear gc0 gc1
      refine HMG.out.mono ?_
      rintro e w11 ⟨ks, rfl, hks, hkf, hkA, -, hT⟩
      have HT11 := Lib.hid hT
      clear hT
      have SG := Lib.hid (show ∀ b ∈ (⟨ga, gc, gs⟩ : Loc LRec).fp, w4'.heap.size + 1 ≤ b ∧ b < w5'.heap.size from fun b hb => ⟨by have := FG10.out.ge b hb; have := S4'.out; omega, LG.out b hb⟩)
      have SS := Lib.hid (show w3'.heap.size + 1 ≤ w4'.heap.size by have := S3'.out; have := S4.out; omega)
      have B11 := Lib.hid (B10.out.trans (HT11.out.below B10.out.size (fun b hb => by have := (SG.out b hb).1; have := SS.out; have := S3.out; omega)))
      have HX11 := Lib.hid (show LLog.At w11 ⟨xf, xr⟩ from HT11.out.keepLoc HX10.out (fun b hb hb2 => by have := LX0.out b hb; have := (SG.out b hb2).1; have := SS.out; have := S3.out; omega))
      have HV11 := Lib.hid (show LLog.At w11 ⟨vf, ⟨va, vc, vs⟩⟩ from HT11.out.keepLoc HV10.out (fun b hb hb2 => by have := LV.out b hb; have := (SG.out b hb2).1; have := SS.out; omega))
      have BX11 := Lib.hid (BX10.out.touch HT11.out (fun hb2 => by have := (SG.out _ hb2).1; have := SS.out; have := S3.out; omega))
      have BV11 := Lib.hid (BV10.out.touch HT11.out (fun hb2 => by have := (SG.out _ hb2).1; have := SS.out; omega))
      have BG11 := Lib.hid (BG10.out.touch HT11.out (fun hb2 => by have := (SG.out _ hb2).2; omega))
      have HKL : Hid (ks.length = gs.length) := Lib.hid (by have := congrArg List.length hkf; simpa using this)
      have HGA11 := Lib.hid (show LLog.At w11 ⟨gf, ⟨ga, gc, ks⟩⟩ from hkA)
      have HKS := Lib.hid (show ks.map LRec.er = markR 1 Z.recs from hks)
      have HH : Hid (∀ W, LLog.At W ⟨gf, ⟨ga, gc, ks⟩⟩ → Calls Tryd.prog 22 #[.agg #[.int .i64 gf, .slice ga gs.length gc], .int .i64 1] W fun e w' => e = .returned (.int .i64 (mm : Int)) ∧ Below W.heap.size W w') := Lib.hid (fun W hW => by
        have h := heldLog_any ⟨gf, ⟨ga, gc, ks⟩⟩ 1 Z.recs W hW HKS.out (Nat.le_refl _) (by have := HME.out; omega)
        rw [HME.out] at h
        simp only [LLog.val, Loc.val, HKL.out] at h
        exact h)
      clear HT11 SG hks hkf hkA B10 HX10 BX10 HV10 BV10 HG10 FG10 BG10 HMG
      have hmn : ¬ ((mm : Nat) : Int) < 0 := by omega
      have hmne : (((mm : Nat) : Int) != ((mm : Nat) : Int)) = false := by simp
      have gc0 := BG11.out.2 0 _ rfl
      have gc1 := BG11.out.2 1 _ rfl
      go_wp2_with fail
      clear gc0 gc1
      refine (HH.out w11 HGA11.out).mono ?_
      rintro e w12 ⟨rfl, b12⟩
      have B12 := Lib.hid (nextB B11.out b12)
      have HX12 := Lib.hid (LLog.below_ HX11.out b12)
      have BX12 := Lib.hid (BX11.out.keep b12)
      clear B11 HX11 BX11
      have HV12 := Lib.hid (LLog.below_ HV11.out b12)
      have BV12 := Lib.hid (BV11.out.keep b12)
      clear HV11 BV11
      have BG12 := Lib.hid (BG11.out.keep b12)
      have HGA12 := Lib.hid (LLog.below_ HGA11.out b12)
      clear b12 HGA11 BG11
      have xc0 := BX12.out.2 0 _ rfl
      have xc1 := BX12.out.2 1 _ rfl
      go_wp2_with fail
      clear xc0 xc1
      refine (toLog_any ⟨xf, xr⟩ w12 HX12.out HN.out).mono ?_
      rintro e w13 ⟨u, rfl, hu, huA, -, b13⟩
      have B13 := Lib.hid (nextB B12.out b13)
      have HX13 := Lib.hid (LLog.below_ HX12.out b13)
      have BX13 := Lib.hid (BX12.out.keep b13)
      clear B12 HX12 BX12
      have HV13 := Lib.hid (LLog.below_ HV12.out b13)
      have BV13 := Lib.hid (BV12.out.keep b13)
      clear HV12 BV12
      have BG13 := Lib.hid (BG12.out.keep b13)
      have HGA13 := Lib.hid (LLog.below_ HGA12.out b13)
      have HU := Lib.hid hu
      have HUA := Lib.hid huA
      clear b13 hu huA HGA12 BG12
      go_wp2_with fail
      refine (iLogCut_any u n w13 HUA.out HNR.out).mono ?_
      rintro e w14' ⟨⟨hf, ⟨ha, hc, hs⟩⟩, rfl, hh, hhA, -, b14⟩
      simp only [LLog.val, Loc.val]
      have hB14 := (Below.refl w14'.heap.size w14').alloc (Nat.le_refl _) (Obj.cells #[.int .i64 hf, .slice ha hs.length hc] 29)
      have hB14' : Below w13.heap.size w13 _ := b14.trans (hB14.mono b14.size)
      have B14 := Lib.hid (nextB B13.out hB14')
      have HX14 := Lib.hid (LLog.below_ HX13.out hB14')
      have BX14 := Lib.hid (BX13.out.keep hB14')
      clear B13 HX13 BX13
      have HV14 := Lib.hid (LLog.below_ HV13.out hB14')
      have BV14 := Lib.hid (BV13.out.keep hB14')
      clear HV13 BV13
      have BG14 := Lib.hid (BG13.out.keep hB14')
      have HGA14 := Lib.hid (LLog.below_ HGA13.out hB14')
      have HHE := Lib.hid (show LLog.er ⟨hf, ⟨ha, hc, hs⟩⟩ = Z by rw [← HZ.out, hh, HU.out])
      have HHA := Lib.hid (LLog.below_ hhA hB14)
      have BH14 := Lib.hid (Boxed.new w14' #[.int .i64 hf, .slice ha hs.length hc] 29)
      clear b14 hh hhA hB14 hB14' BG13 HGA13
      have hc0 := BH14.out.2 0 _ rfl
      have hc1 := BH14.out.2 1 _ rfl
      have vc0 := BV14.out.2 0 _ rfl
      have vc1 := BV14.out.2 1 _ rfl
      go_wp2_with fail
      generalize w14'.alloc (Obj.cells #[.int .i64 hf, .slice ha hs.length hc] 29) = w14 at *
      clear hc0 hc1 vc0 vc1
      refine (eqLog_any ⟨hf, ⟨ha, hc, hs⟩⟩ ⟨vf, ⟨va, vc, vs⟩⟩ w14 HHA.out HV14.out).mono ?_
      rintro e w15 ⟨⟨q, rfl, hq⟩, b15⟩
      obtain rfl : q = true := hq.2 (HHE.out.trans HV.out.symm)
      have B15 := Lib.hid (nextB B14.out b15)
      have BG15 := Lib.hid (BG14.out.keep b15)
      have HGA15 := Lib.hid (LLog.below_ HGA14.out b15)
      clear b15 hq B14 HX14 BX14 HV14 BV14 BG14 HGA14 HHA BH14
      have gc0 := BG15.out.2 0 _ rfl
      have gc1 := BG15.out.2 1 _ rfl
      go_wp2_with fail
      clear gc0 gc1
      refine (HH.out w15 HGA15.out).mono ?_
      rintro e w16 ⟨rfl, b16⟩
      have B16 := Lib.hid (nextB B15.out b16)
      clear b16 B15 HGA15 BG15
      go_wp2_with fail
      go_ret
      exact ⟨rfl, B16.out⟩
end Go.Proofs.YtpgdelfdaalhbaaDoor
