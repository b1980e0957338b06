/- The walk of the laws FnExactRecOk, FnExactLogOk, FnExactLogEnd over located arguments. -/
import Derived.Test.YtjlaaoecockfjaaDoorToR
import Derived.Test.YtjlaaoecockfjaaDoorOkLaws
namespace Go.Proofs.YtjlaaoecockfjaaDoor
open Go Go.RowKit

theorem LLog.belowAll {w w' : World} {x : LLog} (h : x.At w) (hb : Below w.heap.size w w') : x.At w' := Loc.At.belowAll h hb

theorem LLog.keep {w w' : World} {x : LLog} (h : x.At w) (hk : ∀ b ∈ x.recs.fp, w'.heap[b]? = w.heap[b]?) : x.At w' := Loc.keep_At h hk

theorem iRecOk_any (x : LRec) (w : World) (hx : Dat.At w x) :
    Calls Tryd.prog 14 #[x.val] w fun e w' => e = .returned (.bool (recB x.er)) ∧ Below w.heap.size w w' := by
  have hB := (Below.refl w.heap.size w).alloc (Nat.le_refl _) (Obj.cells #[.int .i64 x.kind, .string x.name, x.sibs.val, .int .i64 x.n, .int .i64 x.sum] 27)
  have hc := Lib.hid (isRec_any x _ (Dat.belowAll hx hB))
  obtain ⟨xk, xn, xs, xm, xq⟩ := x
  simp only [LRec.val] at hc ⊢
  have HB := Lib.hid hB
  clear hB
  go_enter Tryd.func14, Tryd.ntmps14
  go_wp2_with fail
  refine hc.out.mono ?_
  rintro e w' ⟨rfl, hb⟩
  go_wp2_with fail
  go_ret
  exact ⟨rfl, HB.out.trans (hb.mono (by simp))⟩

theorem iLogOk_any (x : LLog) (w : World) (hx : x.At w) :
    Calls Tryd.prog 35 #[x.val] w fun e w' => e = .returned (.bool (logB x.er)) ∧ Below w.heap.size w w' := by
  have hB := (Below.refl w.heap.size w).alloc (Nat.le_refl _) (Obj.cells #[.int .i64 x.from_, x.recs.val] 62)
  have hc := Lib.hid (isLog_any x _ (Loc.At.belowAll hx hB))
  obtain ⟨xf, xr⟩ := x
  simp only [LLog.val] at hc ⊢
  have HB := Lib.hid hB
  clear hB
  go_enter Tryd.func35, Tryd.ntmps35
  go_wp2_with fail
  refine hc.out.mono ?_
  rintro e w' ⟨rfl, hb⟩
  go_wp2_with fail
  go_ret
  exact ⟨rfl, HB.out.trans (hb.mono (by simp))⟩

set_option maxRecDepth 100000 in
set_option maxHeartbeats 400000 in
theorem exactRecOk_walk (x : LRec) (w : World) (hx : Dat.At w x) :
    Calls Tryd.prog 5 #[x.val] w fun e w' => e = .returned (.bool true) ∧ Below w.heap.size w w' := by
  generalize hb : recB (x.er) = b
  have HB := Lib.hid hb
  clear hb
  obtain ⟨xk, xn, xs, xm, xq⟩ := x
  simp only [LRec.val]
  have hB0 := (Below.refl w.heap.size w).alloc (Nat.le_refl _) (Obj.cells #[.int .i64 xk, .string xn, xs.val, .int .i64 xm, .int .i64 xq] 42)
  have HX0 := Lib.hid (Dat.belowAll hx hB0)
  have HB0 := Lib.hid hB0
  have BX0 := Lib.hid (Boxed.new w #[.int .i64 xk, .string xn, xs.val, .int .i64 xm, .int .i64 xq] 42)
  clear hB0 hx
  go_enter Tryd.func5, Tryd.ntmps5
  go_wp2_with fail
  refine (szRec_any ⟨xk, xn, xs, xm, xq⟩ 1048576 _ HX0.out (by decide)).mono ?_
  rintro e w1 ⟨⟨r, rfl, hr⟩, b1⟩
  have B1 := Lib.hid (HB0.out.trans (b1.mono (by simp)))
  have BX1 := Lib.hid (BX0.out.keep b1)
  have HX1 := Lib.hid (Dat.belowAll HX0.out b1)
  have HR := Lib.hid hr
  clear hr b1 HX0
  by_cases hr0 : r < 0
  · go_wp2_with fail
    go_ret
    exact ⟨rfl, B1.out⟩
  · have HN : Hid (bulkRec ⟨xk, xn, xs, xm, xq⟩ ≤ 1048576) := Lib.hid (by rcases HR.out with h | h <;> omega)
    have xc0 := BX1.out.2 0 _ rfl
    have xc1 := BX1.out.2 1 _ rfl
    have xc2 := BX1.out.2 2 _ rfl
    have xc3 := BX1.out.2 3 _ rfl
    have xc4 := BX1.out.2 4 _ rfl
    go_wp2_with fail
    refine (toRec_any ⟨xk, xn, xs, xm, xq⟩ w1 HX1.out HN.out).mono ?_
    rintro e w2 ⟨y, rfl, hy, hyA, -, b2⟩
    have B2 := Lib.hid (nextB B1.out b2)
    have BX2 := Lib.hid (BX1.out.keep b2)
    have HX2 := Lib.hid (Dat.belowAll HX1.out b2)
    have HY := Lib.hid hy
    have HYA := Lib.hid hyA
    clear b2 hy hyA B1 HX1
    go_wp2_with fail
    refine (sRecOk_any y w2 HYA.out).mono ?_
    rintro e w3 ⟨he, b3⟩
    have he' : e = .returned (.bool b) := he.trans (by rw [← HB.out]; exact congrArg (fun q => Ending.returned (.bool (recB q))) HY.out)
    subst he'
    have B3 := Lib.hid (nextB B2.out b3)
    have BX3 := Lib.hid (BX2.out.keep b3)
    have HX3 := Lib.hid (Dat.belowAll HX2.out b3)
    clear b3 he B2 HX2
    have xc0 := BX3.out.2 0 _ rfl
    have xc1 := BX3.out.2 1 _ rfl
    have xc2 := BX3.out.2 2 _ rfl
    have xc3 := BX3.out.2 3 _ rfl
    have xc4 := BX3.out.2 4 _ rfl
    go_wp2_with fail
    refine (toRec_any ⟨xk, xn, xs, xm, xq⟩ w3 HX3.out HN.out).mono ?_
    rintro e w4 ⟨⟨zk, zn, ⟨za, zc, zs⟩, zm, zq⟩, rfl, hz, hzA, -, b4⟩
    simp only [LRec.val, Loc.val]
    have B4 := Lib.hid (nextB B3.out b4)
    have BX4 := Lib.hid (BX3.out.keep b4)
    have HX4 := Lib.hid (Dat.belowAll HX3.out b4)
    have HZ := Lib.hid hz
    have hB4 := (Below.refl w4.heap.size w4).alloc (Nat.le_refl _) (Obj.cells #[.int .i64 zk, .string zn, .slice za zs.length zc, .int .i64 zm, .int .i64 zq] 27)
    have HZ4 := Lib.hid (Dat.belowAll hzA hB4)
    have BZ4 := Lib.hid (Boxed.new w4 #[.int .i64 zk, .string zn, .slice za zs.length zc, .int .i64 zm, .int .i64 zq] 27)
    have HX4' := Lib.hid (Dat.belowAll HX4.out hB4)
    have B4' := Lib.hid (nextB B4.out hB4)
    have BX4' := Lib.hid (BX4.out.keep hB4)
    clear hB4 HX4 B4 BX4
    clear b4 hz hzA B3 HX3
    go_wp2_with fail
    refine (iRecOk_any ⟨zk, zn, ⟨za, zc, zs⟩, zm, zq⟩ _ HZ4.out).mono ?_
    rintro e w5 ⟨he, b5⟩
    have he' : e = .returned (.bool b) := he.trans (by rw [← HB.out]; exact congrArg (fun q => Ending.returned (.bool (recB q))) HZ.out)
    subst he'
    have B5 := Lib.hid (nextB B4'.out b5)
    have BX5 := Lib.hid (BX4'.out.keep b5)
    have BZ5 := Lib.hid (BZ4.out.keep b5)
    have HX5 := Lib.hid (Dat.belowAll HX4'.out b5)
    have HZ5 := Lib.hid (Dat.belowAll HZ4.out b5)
    clear b5 he B4' HX4' HZ4
    (try have hbb : (b != b) = false := by simp)
    have xc0 := BX5.out.2 0 _ rfl
    have xc1 := BX5.out.2 1 _ rfl
    have xc2 := BX5.out.2 2 _ rfl
    have xc3 := BX5.out.2 3 _ rfl
    have xc4 := BX5.out.2 4 _ rfl
    have zc0 := BZ5.out.2 0 _ rfl
    have zc1 := BZ5.out.2 1 _ rfl
    have zc2 := BZ5.out.2 2 _ rfl
    have zc3 := BZ5.out.2 3 _ rfl
    have zc4 := BZ5.out.2 4 _ rfl
    go_wp2_with fail
    go_region_with (first
      | (go_at_call 22; refine (toRec_any ⟨xk, xn, xs, xm, xq⟩ _ ?_ HN.out).mono ?_; exact Dat.keep HX5.out (fun _ _ => rfl); rintro e w6 ⟨t, rfl, ht, htA, -, b6⟩; have b6' : Below w5.heap.size w5 w6 := ⟨b6.os, b6.tape, b6.output, b6.size, b6.block⟩; have hz6 := Dat.belowAll HZ5.out b6'; have bz6 := BZ5.out.keep b6'; have B6 := Lib.hid (nextB B5.out b6'); clear b6'; have HZ6 := Lib.hid hz6; have HT := Lib.hid ht; have HTA := Lib.hid htA; have yc0 := bz6.2 0 _ rfl; have yc1 := bz6.2 1 _ rfl; (try have yc2 := bz6.2 2 _ rfl); (try have yc3 := bz6.2 3 _ rfl); (try have yc4 := bz6.2 4 _ rfl); clear hz6 bz6 ht htA b6)
      | (go_at_call 23; refine (eqRec_any ⟨zk, zn, ⟨za, zc, zs⟩, zm, zq⟩ t _ ?_ ?_).mono ?_; exact Dat.keep HZ6.out (fun _ _ => rfl); exact Dat.keep HTA.out (fun _ _ => rfl); rintro e w7 ⟨⟨v, rfl, hv⟩, b7⟩; obtain rfl : v = true := hv.2 (HZ.out.trans HT.out.symm); have B7 := Lib.hid (nextB B6.out (show Below w6.heap.size w6 w7 from ⟨b7.os, b7.tape, b7.output, b7.size, b7.block⟩)); clear b7 hv))
    all_goals
      go_wp2_with fail
      go_ret
      exact ⟨rfl, B7.out⟩

set_option maxRecDepth 100000 in
set_option maxHeartbeats 400000 in
theorem exactLogOk_walk (x : LLog) (w : World) (hx : LLog.At w x) :
    Calls Tryd.prog 9 #[x.val] w fun e w' => e = .returned (.bool true) ∧ Below w.heap.size w w' := by
  generalize hb : logB (x.er) = b
  have HB := Lib.hid hb
  clear hb
  obtain ⟨xf, xr⟩ := x
  simp only [LLog.val]
  have hB0 := (Below.refl w.heap.size w).alloc (Nat.le_refl _) (Obj.cells #[.int .i64 xf, xr.val] 57)
  have HX0 := Lib.hid (LLog.belowAll hx hB0)
  have HB0 := Lib.hid hB0
  have BX0 := Lib.hid (Boxed.new w #[.int .i64 xf, xr.val] 57)
  clear hB0 hx
  go_enter Tryd.func9, Tryd.ntmps9
  go_wp2_with fail
  refine (szLog_any ⟨xf, xr⟩ 1048576 _ HX0.out (by decide)).mono ?_
  rintro e w1 ⟨⟨r, rfl, hr⟩, b1⟩
  have B1 := Lib.hid (HB0.out.trans (b1.mono (by simp)))
  have BX1 := Lib.hid (BX0.out.keep b1)
  have HX1 := Lib.hid (LLog.belowAll HX0.out b1)
  have HR := Lib.hid hr
  clear hr b1 HX0
  by_cases hr0 : r < 0
  · go_wp2_with fail
    go_ret
    exact ⟨rfl, B1.out⟩
  · have HN : Hid (bulkLog ⟨xf, xr⟩ ≤ 1048576) := Lib.hid (by rcases HR.out with h | h <;> omega)
    have xc0 := BX1.out.2 0 _ rfl
    have xc1 := BX1.out.2 1 _ rfl
    go_wp2_with fail
    refine (toLog_any ⟨xf, xr⟩ w1 HX1.out HN.out).mono ?_
    rintro e w2 ⟨y, rfl, hy, hyA, -, b2⟩
    have B2 := Lib.hid (nextB B1.out b2)
    have BX2 := Lib.hid (BX1.out.keep b2)
    have HX2 := Lib.hid (LLog.belowAll HX1.out b2)
    have HY := Lib.hid hy
    have HYA := Lib.hid hyA
    clear b2 hy hyA B1 HX1
    go_wp2_with fail
    refine (sLogOk_any y w2 HYA.out).mono ?_
    rintro e w3 ⟨he, b3⟩
    have he' : e = .returned (.bool b) := he.trans (by rw [← HB.out]; exact congrArg (fun q => Ending.returned (.bool (logB q))) HY.out)
    subst he'
    have B3 := Lib.hid (nextB B2.out b3)
    have BX3 := Lib.hid (BX2.out.keep b3)
    have HX3 := Lib.hid (LLog.belowAll HX2.out b3)
    clear b3 he B2 HX2
    have xc0 := BX3.out.2 0 _ rfl
    have xc1 := BX3.out.2 1 _ rfl
    go_wp2_with fail
    refine (toLog_any ⟨xf, xr⟩ w3 HX3.out HN.out).mono ?_
    rintro e w4 ⟨⟨zf, ⟨za, zc, zs⟩⟩, rfl, hz, hzA, -, b4⟩
    simp only [LLog.val, Loc.val]
    have B4 := Lib.hid (nextB B3.out b4)
    have BX4 := Lib.hid (BX3.out.keep b4)
    have HX4 := Lib.hid (LLog.belowAll HX3.out b4)
    have HZ := Lib.hid hz
    have hB4 := (Below.refl w4.heap.size w4).alloc (Nat.le_refl _) (Obj.cells #[.int .i64 zf, .slice za zs.length zc] 62)
    have HZ4 := Lib.hid (LLog.belowAll hzA hB4)
    have BZ4 := Lib.hid (Boxed.new w4 #[.int .i64 zf, .slice za zs.length zc] 62)
    have HX4' := Lib.hid (LLog.belowAll HX4.out hB4)
    have B4' := Lib.hid (nextB B4.out hB4)
    have BX4' := Lib.hid (BX4.out.keep hB4)
    clear hB4 HX4 B4 BX4
    clear b4 hz hzA B3 HX3
    go_wp2_with fail
    refine (iLogOk_any ⟨zf, ⟨za, zc, zs⟩⟩ _ HZ4.out).mono ?_
    rintro e w5 ⟨he, b5⟩
    have he' : e = .returned (.bool b) := he.trans (by rw [← HB.out]; exact congrArg (fun q => Ending.returned (.bool (logB q))) HZ.out)
    subst he'
    have B5 := Lib.hid (nextB B4'.out b5)
    have BX5 := Lib.hid (BX4'.out.keep b5)
    have BZ5 := Lib.hid (BZ4.out.keep b5)
    have HX5 := Lib.hid (LLog.belowAll HX4'.out b5)
    have HZ5 := Lib.hid (LLog.belowAll HZ4.out b5)
    clear b5 he B4' HX4' HZ4
    (try have hbb : (b != b) = false := by simp)
    have xc0 := BX5.out.2 0 _ rfl
    have xc1 := BX5.out.2 1 _ rfl
    have zc0 := BZ5.out.2 0 _ rfl
    have zc1 := BZ5.out.2 1 _ rfl
    go_wp2_with fail
    go_region_with (first
      | (go_at_call 34; refine (toLog_any ⟨xf, xr⟩ _ ?_ HN.out).mono ?_; exact LLog.keep HX5.out (fun _ _ => rfl); rintro e w6 ⟨t, rfl, ht, htA, -, b6⟩; have b6' : Below w5.heap.size w5 w6 := ⟨b6.os, b6.tape, b6.output, b6.size, b6.block⟩; have hz6 := LLog.belowAll HZ5.out b6'; have bz6 := BZ5.out.keep b6'; have B6 := Lib.hid (nextB B5.out b6'); clear b6'; have HZ6 := Lib.hid hz6; have HT := Lib.hid ht; have HTA := Lib.hid htA; have yc0 := bz6.2 0 _ rfl; have yc1 := bz6.2 1 _ rfl; (try have yc2 := bz6.2 2 _ rfl); (try have yc3 := bz6.2 3 _ rfl); (try have yc4 := bz6.2 4 _ rfl); clear hz6 bz6 ht htA b6)
      | (go_at_call 36; refine (eqLog_any ⟨zf, ⟨za, zc, zs⟩⟩ t _ ?_ ?_).mono ?_; exact LLog.keep HZ6.out (fun _ _ => rfl); exact LLog.keep HTA.out (fun _ _ => rfl); rintro e w7 ⟨⟨v, rfl, hv⟩, b7⟩; obtain rfl : v = true := hv.2 (HZ.out.trans HT.out.symm); have B7 := Lib.hid (nextB B6.out (show Below w6.heap.size w6 w7 from ⟨b7.os, b7.tape, b7.output, b7.size, b7.block⟩)); clear b7 hv))
    all_goals
      go_wp2_with fail
      go_ret
      exact ⟨rfl, B7.out⟩

/-- What both LogEnds answer. -/
noncomputable def endZ (l : Log) : Int := if logB l = true then wrap64 (l.from_ + (l.recs.length : Nat)) else -1

set_option maxRecDepth 100000 in
theorem logEnd_any (x : LLog) (w : World) (hx : x.At w) :
    Calls Tryd.prog 70 #[x.val] w fun e w' => e = .returned (.int .i64 (wrap64 (x.from_ + (x.recs.xs.length : Nat)))) ∧ Below w.heap.size w w' := by
  obtain ⟨xf, xa, xc, xs⟩ := x
  have h1 := Loc.At.lenMax hx
  simp only at h1
  simp only [LLog.val, Loc.val]
  go_enter Tryd.func70, Tryd.ntmps70
  go_wp2_with fail
  go_ret
  exact ⟨rfl, (Below.refl w.heap.size w).alloc (Nat.le_refl _) _⟩

theorem iLogEnd_any (x : LLog) (w : World) (hx : x.At w) :
    Calls Tryd.prog 38 #[x.val] w fun e w' => e = .returned (.int .i64 (endZ x.er)) ∧ Below w.heap.size w w' := by
  have hB := (Below.refl w.heap.size w).alloc (Nat.le_refl _) (Obj.cells #[.int .i64 x.from_, x.recs.val] 62)
  have hxB := Loc.At.belowAll hx hB
  have hc := Lib.hid (isLog_any x _ hxB)
  have hd := Lib.hid (fun W h => logEnd_any x W h)
  obtain ⟨xf, xr⟩ := x
  simp only [LLog.val] at hc hd ⊢
  generalize hl : logB _ = b at hc
  have HL := Lib.hid hl
  have HB := Lib.hid hB
  have HX := Lib.hid hxB
  clear hB hl hx hxB
  go_enter Tryd.func38, Tryd.ntmps38
  go_wp2_with fail
  refine hc.out.mono ?_
  rintro e w' ⟨rfl, hb⟩
  have c0 : w'.cell? ⟨w.heap.size, 0, none⟩ = some (.int .i64 xf) := by rw [hb.cell (by simp)]; go_simp
  have c1 : w'.cell? ⟨w.heap.size, 1, none⟩ = some xr.val := by rw [hb.cell (by simp)]; go_simp
  have HB2 := Lib.hid hb
  clear hb
  cases b with
  | false =>
    go_wp2_with fail
    go_ret
    exact ⟨ret_int (by simp [endZ, HL.out]), HB.out.trans (HB2.out.mono (by simp))⟩
  | true =>
    go_wp2_with fail
    refine (hd.out w' (Loc.At.belowAll HX.out HB2.out)).mono ?_
    rintro e w2 ⟨rfl, hb3⟩
    have HB3 := Lib.hid hb3
    clear hb3
    go_wp2_with fail
    go_ret
    exact ⟨ret_int (by have h := HL.out; simp only [LLog.er] at h; simp [endZ, LLog.er, h]), nextB (HB.out.trans (HB2.out.mono (by simp))) HB3.out⟩

theorem sLogEnd_any (x : LLog) (w : World) (hx : x.At w) :
    Calls Tryd.prog 37 #[x.val] w fun e w' => e = .returned (.int .i64 (endZ x.er)) ∧ Below w.heap.size w w' := by
  have hB := (Below.refl w.heap.size w).alloc (Nat.le_refl _) (Obj.cells #[.int .i64 x.from_, x.recs.val] 62)
  have hxB := Loc.At.belowAll hx hB
  have hc := Lib.hid (sLogOk_any x _ hxB)
  have h1 := Loc.At.lenMax hx
  obtain ⟨xf, xa, xc, xs⟩ := x
  simp only [LLog.val, Loc.val] at hc h1 ⊢
  generalize hl : logB _ = b at hc
  have HL := Lib.hid hl
  have HB := Lib.hid hB
  clear hB hl hx hxB
  go_enter Tryd.func37, Tryd.ntmps37
  go_wp2_with fail
  refine hc.out.mono ?_
  rintro e w' ⟨rfl, hb⟩
  have c0 : w'.cell? ⟨w.heap.size, 0, none⟩ = some (.int .i64 xf) := by rw [hb.cell (by simp)]; go_simp
  have c1 : w'.cell? ⟨w.heap.size, 1, none⟩ = some (.slice xa xs.length xc) := by rw [hb.cell (by simp)]; go_simp
  have HB2 := Lib.hid hb
  clear hb
  cases b with
  | false =>
    go_wp2_with fail
    go_ret
    exact ⟨ret_int (by simp [endZ, HL.out]), HB.out.trans (HB2.out.mono (by simp))⟩
  | true =>
    go_wp2_with fail
    go_ret
    exact ⟨ret_int (by have h := HL.out; simp only [LLog.er] at h; simp [endZ, LLog.er, h]), HB.out.trans (HB2.out.mono (by simp))⟩

set_option maxRecDepth 100000 in
set_option maxHeartbeats 400000 in
theorem exactLogEnd_walk (x : LLog) (w : World) (hx : LLog.At w x) :
    Calls Tryd.prog 10 #[x.val] w fun e w' => e = .returned (.bool true) ∧ Below w.heap.size w w' := by
  generalize hb : endZ (x.er) = b
  have HB := Lib.hid hb
  clear hb
  obtain ⟨xf, xr⟩ := x
  simp only [LLog.val]
  have hB0 := (Below.refl w.heap.size w).alloc (Nat.le_refl _) (Obj.cells #[.int .i64 xf, xr.val] 57)
  have HX0 := Lib.hid (LLog.belowAll hx hB0)
  have HB0 := Lib.hid hB0
  have BX0 := Lib.hid (Boxed.new w #[.int .i64 xf, xr.val] 57)
  clear hB0 hx
  go_enter Tryd.func10, Tryd.ntmps10
  go_wp2_with fail
  refine (szLog_any ⟨xf, xr⟩ 1048576 _ HX0.out (by decide)).mono ?_
  rintro e w1 ⟨⟨r, rfl, hr⟩, b1⟩
  have B1 := Lib.hid (HB0.out.trans (b1.mono (by simp)))
  have BX1 := Lib.hid (BX0.out.keep b1)
  have HX1 := Lib.hid (LLog.belowAll HX0.out b1)
  have HR := Lib.hid hr
  clear hr b1 HX0
  by_cases hr0 : r < 0
  · go_wp2_with fail
    go_ret
    exact ⟨rfl, B1.out⟩
  · have HN : Hid (bulkLog ⟨xf, xr⟩ ≤ 1048576) := Lib.hid (by rcases HR.out with h | h <;> omega)
    have xc0 := BX1.out.2 0 _ rfl
    have xc1 := BX1.out.2 1 _ rfl
    go_wp2_with fail
    refine (toLog_any ⟨xf, xr⟩ w1 HX1.out HN.out).mono ?_
    rintro e w2 ⟨y, rfl, hy, hyA, -, b2⟩
    have B2 := Lib.hid (nextB B1.out b2)
    have BX2 := Lib.hid (BX1.out.keep b2)
    have HX2 := Lib.hid (LLog.belowAll HX1.out b2)
    have HY := Lib.hid hy
    have HYA := Lib.hid hyA
    clear b2 hy hyA B1 HX1
    go_wp2_with fail
    refine (sLogEnd_any y w2 HYA.out).mono ?_
    rintro e w3 ⟨he, b3⟩
    have he' : e = .returned (.int .i64 b) := he.trans (by rw [← HB.out]; exact congrArg (fun q => Ending.returned (.int .i64 (endZ q))) HY.out)
    subst he'
    have B3 := Lib.hid (nextB B2.out b3)
    have BX3 := Lib.hid (BX2.out.keep b3)
    have HX3 := Lib.hid (LLog.belowAll HX2.out b3)
    clear b3 he B2 HX2
    have xc0 := BX3.out.2 0 _ rfl
    have xc1 := BX3.out.2 1 _ rfl
    go_wp2_with fail
    refine (toLog_any ⟨xf, xr⟩ w3 HX3.out HN.out).mono ?_
    rintro e w4 ⟨⟨zf, ⟨za, zc, zs⟩⟩, rfl, hz, hzA, -, b4⟩
    simp only [LLog.val, Loc.val]
    have B4 := Lib.hid (nextB B3.out b4)
    have BX4 := Lib.hid (BX3.out.keep b4)
    have HX4 := Lib.hid (LLog.belowAll HX3.out b4)
    have HZ := Lib.hid hz
    have hB4 := (Below.refl w4.heap.size w4).alloc (Nat.le_refl _) (Obj.cells #[.int .i64 zf, .slice za zs.length zc] 62)
    have HZ4 := Lib.hid (LLog.belowAll hzA hB4)
    have BZ4 := Lib.hid (Boxed.new w4 #[.int .i64 zf, .slice za zs.length zc] 62)
    have HX4' := Lib.hid (LLog.belowAll HX4.out hB4)
    have B4' := Lib.hid (nextB B4.out hB4)
    have BX4' := Lib.hid (BX4.out.keep hB4)
    clear hB4 HX4 B4 BX4
    clear b4 hz hzA B3 HX3
    go_wp2_with fail
    refine (iLogEnd_any ⟨zf, ⟨za, zc, zs⟩⟩ _ HZ4.out).mono ?_
    rintro e w5 ⟨he, b5⟩
    have he' : e = .returned (.int .i64 b) := he.trans (by rw [← HB.out]; exact congrArg (fun q => Ending.returned (.int .i64 (endZ q))) HZ.out)
    subst he'
    have B5 := Lib.hid (nextB B4'.out b5)
    have BX5 := Lib.hid (BX4'.out.keep b5)
    have BZ5 := Lib.hid (BZ4.out.keep b5)
    have HX5 := Lib.hid (LLog.belowAll HX4'.out b5)
    have HZ5 := Lib.hid (LLog.belowAll HZ4.out b5)
    clear b5 he B4' HX4' HZ4
    (try have hbb : (b != b) = false := by simp)
    have xc0 := BX5.out.2 0 _ rfl
    have xc1 := BX5.out.2 1 _ rfl
    have zc0 := BZ5.out.2 0 _ rfl
    have zc1 := BZ5.out.2 1 _ rfl
    go_wp2_with fail
    go_region_with (first
      | (go_at_call 34; refine (toLog_any ⟨xf, xr⟩ _ ?_ HN.out).mono ?_; exact LLog.keep HX5.out (fun _ _ => rfl); rintro e w6 ⟨t, rfl, ht, htA, -, b6⟩; have b6' : Below w5.heap.size w5 w6 := ⟨b6.os, b6.tape, b6.output, b6.size, b6.block⟩; have hz6 := LLog.belowAll HZ5.out b6'; have bz6 := BZ5.out.keep b6'; have B6 := Lib.hid (nextB B5.out b6'); clear b6'; have HZ6 := Lib.hid hz6; have HT := Lib.hid ht; have HTA := Lib.hid htA; have yc0 := bz6.2 0 _ rfl; have yc1 := bz6.2 1 _ rfl; (try have yc2 := bz6.2 2 _ rfl); (try have yc3 := bz6.2 3 _ rfl); (try have yc4 := bz6.2 4 _ rfl); clear hz6 bz6 ht htA b6)
      | (go_at_call 36; refine (eqLog_any ⟨zf, ⟨za, zc, zs⟩⟩ t _ ?_ ?_).mono ?_; exact LLog.keep HZ6.out (fun _ _ => rfl); exact LLog.keep HTA.out (fun _ _ => rfl); rintro e w7 ⟨⟨v, rfl, hv⟩, b7⟩; obtain rfl : v = true := hv.2 (HZ.out.trans HT.out.symm); have B7 := Lib.hid (nextB B6.out (show Below w6.heap.size w6 w7 from ⟨b7.os, b7.tape, b7.output, b7.size, b7.block⟩)); clear b7 hv))
    all_goals
      go_wp2_with fail
      go_ret
      exact ⟨rfl, B7.out⟩
end Go.Proofs.YtjlaaoecockfjaaDoor
