/- The walk of FnGoneWrite. -/
import Derived.Test.YtdidkfadiaafiaaDoorWriteKit
import Derived.Test.YtdidkfadiaafiaaDoorShow
namespace Go.Proofs.YtdidkfadiaafiaaDoor
open Go Go.RowKit

set_option maxRecDepth 100000 in
theorem iSibsShow_any (x : Loc LSib) (w : World) (hx : x.At w) (hk : SibsOK (x.xs.map LSib.er)) :
    Calls Tryd.prog 18 #[x.val] w (NewPost w (fun ys : List ByteArray => ys = showTexts (x.xs.map LSib.er))) := by
  have hc := Lib.hid (areSibs_any x w hx)
  rw [sibsB_true hk] at hc
  have AX := Lib.hid hx
  have HL := Lib.hid (show x.xs.length ≤ 1048576 by have := hk.few; simp at this; omega)
  clear hx hk
  go_enter Tryd.func18, Tryd.ntmps18
  go_wp2_with fail
  refine hc.out.mono ?_
  rintro e w1 ⟨rfl, b1⟩
  have B := Lib.hid b1
  first
    | replace AX := Lib.hid (Loc.At.belowAll AX.out (b1))
    | replace AX := Lib.hid (nextB AX.out (b1))
    | replace AX := Lib.hid (Boxed.keep AX.out (b1))
    | replace AX := Lib.hid (Dat.belowAll AX.out (b1))
    | replace AX := Lib.hid (Fr.belowAll AX.out (b1))
    | replace AX := Lib.hid (Own.belowAll AX.out (b1))
    | replace AX := Lib.hid (Grows.next AX.out (b1))
  clear b1
  go_wp2_with fail
  refine (sibsShow_any x w1 AX.out HL.out).mono ?_
  rintro e w2 ⟨y, rfl, hy, hyA, hyF, b2⟩
  have HY := Lib.hid hy
  have AY := Lib.hid hyA
  have FY := Lib.hid hyF
  have B2 := Lib.hid (nextB B.out b2)
  clear hy hyA hyF b2
  go_wp2_with fail
  go_ret
  exact ⟨y, rfl, HY.out, AY.out, FY.out.mono B.out.size, B2.out⟩

theorem bc_list : (⟨#[98, 99]⟩ : ByteArray).toList = [98, 99] := by rw [ByteArray.toList_eq]

set_option maxRecDepth 100000 in
set_option maxHeartbeats 4000000 in
theorem goneWrite_walk (x y : Loc UInt8) (w : World) (hx : x.At w) (hy : y.At w) :
    Calls Tryd.prog 5 #[x.val, y.val] w fun e w' => e = .returned (.bool true) ∧ Below w.heap.size w w' := by
  have h1 := hx.lenMax
  have h2 := hy.lenMax
  have HX0 := Lib.hid hx
  clear hx hy
  by_cases hbig : (1048576 : Int) < (x.xs.length : Int)
  · obtain ⟨xa, xc, xs⟩ := x
    obtain ⟨ya, yc, ys⟩ := y
    simp only [Loc.val] at hbig ⊢
    go_enter Tryd.func5, Tryd.ntmps5
    go_wp2_with fail
    go_ret
    exact ⟨rfl, Below.refl _ _⟩
  by_cases hbig2 : (1048576 : Int) < (y.xs.length : Int)
  · obtain ⟨xa, xc, xs⟩ := x
    obtain ⟨ya, yc, ys⟩ := y
    simp only [Loc.val] at hbig hbig2 ⊢
    go_enter Tryd.func5, Tryd.ntmps5
    go_wp2_with fail
    go_ret
    exact ⟨rfl, Below.refl _ _⟩
  have hc := Lib.hid (drawTreeWrite_any x w HX0.out)
  obtain ⟨ua, uc, us⟩ := x
  obtain ⟨ma, mc, ms⟩ := y
  simp only [Loc.val] at hbig hbig2 hc ⊢
  go_enter Tryd.func5, Tryd.ntmps5
  go_wp2_with fail
  refine hc.out.mono ?_
  rintro e w1 ⟨⟨ta, tc, ts⟩, site, n, g, s, rfl, h5, hs1, hs6, hnm, hst, hA, b1⟩
  have HNM := Lib.hid (show n ∈ sixN from hnm)
  have HN : Hid (n.size ≤ maxLen) := Lib.hid (by have := sixN_size HNM.out; simp only [maxLen]; omega)
  have HST : Hid (s.size ≤ maxLen) := Lib.hid (by simp only [maxLen]; omega)
  have HSI : Hid (-9223372036854775808 ≤ site ∧ site ≤ 9223372036854775807) := Lib.hid (by omega)
  have B := Lib.hid b1
  have AT := Lib.hid hA
  obtain ⟨T, hT⟩ : ∃ T, ts.map LFile.er = T := ⟨_, rfl⟩
  have HTE := Lib.hid hT
  obtain ⟨⟨X, ok⟩, hP⟩ : ∃ P, writeZ T site n g s = P := ⟨_, rfl⟩
  have HP := Lib.hid hP
  clear hc hnm hst hA b1 hP hT h5
  simp only [Loc.val]
  go_wp2_with fail
  refine (sTreeWrite_any ⟨ta, tc, ts⟩ site n g s w1 AT.out HSI.out HN.out HST.out).mono ?_
  rw [HTE.out, HP.out]
  rintro e w2 ⟨⟨va, vc, vs⟩, rfl, hv, hvA, b2⟩
  have HVE := Lib.hid hv
  have AV := Lib.hid hvA
  first
    | replace B := Lib.hid (Loc.At.belowAll B.out (b2))
    | replace B := Lib.hid (nextB B.out (b2))
    | replace B := Lib.hid (Boxed.keep B.out (b2))
    | replace B := Lib.hid (Dat.belowAll B.out (b2))
    | replace B := Lib.hid (Fr.belowAll B.out (b2))
    | replace B := Lib.hid (Own.belowAll B.out (b2))
    | replace B := Lib.hid (Grows.next B.out (b2))
  first
    | replace AT := Lib.hid (Loc.At.belowAll AT.out (b2))
    | replace AT := Lib.hid (nextB AT.out (b2))
    | replace AT := Lib.hid (Boxed.keep AT.out (b2))
    | replace AT := Lib.hid (Dat.belowAll AT.out (b2))
    | replace AT := Lib.hid (Fr.belowAll AT.out (b2))
    | replace AT := Lib.hid (Own.belowAll AT.out (b2))
    | replace AT := Lib.hid (Grows.next AT.out (b2))
  clear hv hvA b2
  simp only [Loc.val]
  go_wp2_with fail
  refine (iTreeWrite_any ⟨ta, tc, ts⟩ site n g s w2 AT.out HSI.out HN.out HST.out).mono ?_
  rw [HTE.out, HP.out]
  rintro e w3 ⟨⟨xa, xc, xs⟩, rfl, hx, hxA, -, b3⟩
  have HXE := Lib.hid (show xs.map LFile.er = X from hx)
  have AX := Lib.hid hxA
  first
    | replace B := Lib.hid (Loc.At.belowAll B.out (b3))
    | replace B := Lib.hid (nextB B.out (b3))
    | replace B := Lib.hid (Boxed.keep B.out (b3))
    | replace B := Lib.hid (Dat.belowAll B.out (b3))
    | replace B := Lib.hid (Fr.belowAll B.out (b3))
    | replace B := Lib.hid (Own.belowAll B.out (b3))
    | replace B := Lib.hid (Grows.next B.out (b3))
  first
    | replace AT := Lib.hid (Loc.At.belowAll AT.out (b3))
    | replace AT := Lib.hid (nextB AT.out (b3))
    | replace AT := Lib.hid (Boxed.keep AT.out (b3))
    | replace AT := Lib.hid (Dat.belowAll AT.out (b3))
    | replace AT := Lib.hid (Fr.belowAll AT.out (b3))
    | replace AT := Lib.hid (Own.belowAll AT.out (b3))
    | replace AT := Lib.hid (Grows.next AT.out (b3))
  first
    | replace AV := Lib.hid (Loc.At.belowAll AV.out (b3))
    | replace AV := Lib.hid (nextB AV.out (b3))
    | replace AV := Lib.hid (Boxed.keep AV.out (b3))
    | replace AV := Lib.hid (Dat.belowAll AV.out (b3))
    | replace AV := Lib.hid (Fr.belowAll AV.out (b3))
    | replace AV := Lib.hid (Own.belowAll AV.out (b3))
    | replace AV := Lib.hid (Grows.next AV.out (b3))
  clear hx hxA b3
  have hbb : (ok != ok) = false := by simp
  have hbe : (ok == ok) = true := by simp
  have HXV : Hid ((⟨xa, xc, xs⟩ : Loc LFile).xs.map LFile.er = (⟨va, vc, vs⟩ : Loc LFile).xs.map LFile.er) := Lib.hid (HXE.out.trans HVE.out.symm)
  simp only [Loc.val]
  go_wp2_with fail
  refine (lvTree_yes ⟨xa, xc, xs⟩ ⟨va, vc, vs⟩ w3 AX.out AV.out HXV.out).mono ?_
  rintro e w4 ⟨rfl, b4⟩
  first
    | replace B := Lib.hid (Loc.At.belowAll B.out (b4))
    | replace B := Lib.hid (nextB B.out (b4))
    | replace B := Lib.hid (Boxed.keep B.out (b4))
    | replace B := Lib.hid (Dat.belowAll B.out (b4))
    | replace B := Lib.hid (Fr.belowAll B.out (b4))
    | replace B := Lib.hid (Own.belowAll B.out (b4))
    | replace B := Lib.hid (Grows.next B.out (b4))
  first
    | replace AT := Lib.hid (Loc.At.belowAll AT.out (b4))
    | replace AT := Lib.hid (nextB AT.out (b4))
    | replace AT := Lib.hid (Boxed.keep AT.out (b4))
    | replace AT := Lib.hid (Dat.belowAll AT.out (b4))
    | replace AT := Lib.hid (Fr.belowAll AT.out (b4))
    | replace AT := Lib.hid (Own.belowAll AT.out (b4))
    | replace AT := Lib.hid (Grows.next AT.out (b4))
  first
    | replace AV := Lib.hid (Loc.At.belowAll AV.out (b4))
    | replace AV := Lib.hid (nextB AV.out (b4))
    | replace AV := Lib.hid (Boxed.keep AV.out (b4))
    | replace AV := Lib.hid (Dat.belowAll AV.out (b4))
    | replace AV := Lib.hid (Fr.belowAll AV.out (b4))
    | replace AV := Lib.hid (Own.belowAll AV.out (b4))
    | replace AV := Lib.hid (Grows.next AV.out (b4))
  first
    | replace AX := Lib.hid (Loc.At.belowAll AX.out (b4))
    | replace AX := Lib.hid (nextB AX.out (b4))
    | replace AX := Lib.hid (Boxed.keep AX.out (b4))
    | replace AX := Lib.hid (Dat.belowAll AX.out (b4))
    | replace AX := Lib.hid (Fr.belowAll AX.out (b4))
    | replace AX := Lib.hid (Own.belowAll AX.out (b4))
    | replace AX := Lib.hid (Grows.next AX.out (b4))
  clear b4
  cases ok with
  | false =>
    go_wp2_with fail
    refine (lvTree_yes ⟨xa, xc, xs⟩ ⟨va, vc, vs⟩ w4 AX.out AV.out HXV.out).mono ?_
    rintro e w9 ⟨rfl, b9⟩
    first
      | replace B := Lib.hid (Loc.At.belowAll B.out (b9))
      | replace B := Lib.hid (nextB B.out (b9))
      | replace B := Lib.hid (Boxed.keep B.out (b9))
      | replace B := Lib.hid (Dat.belowAll B.out (b9))
      | replace B := Lib.hid (Fr.belowAll B.out (b9))
      | replace B := Lib.hid (Own.belowAll B.out (b9))
      | replace B := Lib.hid (Grows.next B.out (b9))
    clear b9
    go_wp2_with fail
    go_ret
    exact ⟨rfl, B.out⟩
  | true =>
    have HWO := Lib.hid (writeZ_ok HP.out)
    have HT := Lib.hid HWO.out.1
    have HX := Lib.hid (show X = writeT T site n g s from HWO.out.2.2)
    have HXT := Lib.hid (show TreeOK X by rw [HX.out]; exact write_tree HT.out HWO.out.2.1)
    obtain ⟨⟨Y, o1⟩, hP1⟩ : ∃ P, writeZ X site n true ⟨#[]⟩ = P := ⟨_, rfl⟩
    have HP1 := Lib.hid hP1
    clear hP1
    go_wp2_with fail
    refine (iTreeWrite_any ⟨xa, xc, xs⟩ site n true ⟨#[]⟩ w4 AX.out HSI.out HN.out (by decide)).mono ?_
    rw [show (⟨xa, xc, xs⟩ : Loc LFile).xs.map LFile.er = X from HXE.out, HP1.out]
    rintro e w5 ⟨⟨ya, yc, ys⟩, rfl, hy, hyA, -, b5⟩
    have HYE := Lib.hid (show ys.map LFile.er = Y from hy)
    have AY := Lib.hid hyA
    first
      | replace B := Lib.hid (Loc.At.belowAll B.out (b5))
      | replace B := Lib.hid (nextB B.out (b5))
      | replace B := Lib.hid (Boxed.keep B.out (b5))
      | replace B := Lib.hid (Dat.belowAll B.out (b5))
      | replace B := Lib.hid (Fr.belowAll B.out (b5))
      | replace B := Lib.hid (Own.belowAll B.out (b5))
      | replace B := Lib.hid (Grows.next B.out (b5))
    clear hy hyA b5
    obtain ⟨j, hj⟩ : ∃ j : Int, j = (ms.length : Int).tmod 3 := ⟨_, rfl⟩
    have hj1 : 0 ≤ j ∧ j < 3 := by rw [hj, Int.tmod_eq_emod_of_nonneg (by omega)]; omega
    have hjt : (ms.length : Int).tmod 3 = j := hj.symm
    have hjw : IntKind.i64.wrap j = j := IntWalk.i64_in _ (by omega)
    have hjw2 : IntKind.i64.wrap (1 + j) = 1 + j := IntWalk.i64_in _ (by omega)
    have HJ := Lib.hid hj1
    clear hj
    obtain ⟨⟨Z, o2⟩, hP2⟩ : ∃ P, writeZ Y (1 + j) n false ⟨#[98, 99]⟩ = P := ⟨_, rfl⟩
    have HP2 := Lib.hid hP2
    clear hP2
    simp only [Loc.val]
    go_wp2_with fail
    refine (iTreeWrite_any ⟨ya, yc, ys⟩ (1 + j) n false ⟨#[98, 99]⟩ w5 AY.out (by have := HJ.out; omega) HN.out (by decide)).mono ?_
    rw [show (⟨ya, yc, ys⟩ : Loc LFile).xs.map LFile.er = Y from HYE.out, HP2.out]
    rintro e w6 ⟨⟨za, zc, zs⟩, rfl, hz, hzA, -, b6⟩
    have HZE := Lib.hid (show zs.map LFile.er = Z from hz)
    have AZ := Lib.hid hzA
    first
      | replace B := Lib.hid (Loc.At.belowAll B.out (b6))
      | replace B := Lib.hid (nextB B.out (b6))
      | replace B := Lib.hid (Boxed.keep B.out (b6))
      | replace B := Lib.hid (Dat.belowAll B.out (b6))
      | replace B := Lib.hid (Fr.belowAll B.out (b6))
      | replace B := Lib.hid (Own.belowAll B.out (b6))
      | replace B := Lib.hid (Grows.next B.out (b6))
    first
      | replace AY := Lib.hid (Loc.At.belowAll AY.out (b6))
      | replace AY := Lib.hid (nextB AY.out (b6))
      | replace AY := Lib.hid (Boxed.keep AY.out (b6))
      | replace AY := Lib.hid (Dat.belowAll AY.out (b6))
      | replace AY := Lib.hid (Fr.belowAll AY.out (b6))
      | replace AY := Lib.hid (Own.belowAll AY.out (b6))
      | replace AY := Lib.hid (Grows.next AY.out (b6))
    clear hz hzA b6
    simp only [Loc.val]
    cases o1 with
    | false =>
      go_wp2_with fail
      go_ret
      exact ⟨rfl, B.out⟩
    | true =>
    cases o2 with
    | false =>
      go_wp2_with fail
      go_ret
      exact ⟨rfl, B.out⟩
    | true =>
      have HW1 := Lib.hid (writeZ_ok HP1.out)
      have HW2 := Lib.hid (writeZ_ok HP2.out)
      have HYT := Lib.hid HW2.out.1
      have HZT : Hid (TreeOK Z) := Lib.hid (by rw [HW2.out.2.2]; exact write_tree HYT.out HW2.out.2.1)
      have HZN : Hid (atL n Z = [newSib Y (1 + j) n false ⟨#[98, 99]⟩]) := Lib.hid (by rw [HW2.out.2.2, write_at _ _ _ _ HYT.out, if_pos rfl])
      have HYN : Hid (atL n Y = [newSib X site n true ⟨#[]⟩]) := Lib.hid (by rw [HW1.out.2.2, write_at _ _ _ _ HXT.out, if_pos rfl])
      go_wp2_with fail
      refine (treeAt_ok ⟨za, zc, zs⟩ n w6 AZ.out HZE.out HZT.out).mono ?_
      rintro e w7 ⟨p, rfl, hp, hpA, -, b7⟩
      have HPE := Lib.hid (show p.xs.map LSib.er = [newSib Y (1 + j) n false ⟨#[98, 99]⟩] from hp.trans HZN.out)
      have AP := Lib.hid hpA
      first
        | replace B := Lib.hid (Loc.At.belowAll B.out (b7))
        | replace B := Lib.hid (nextB B.out (b7))
        | replace B := Lib.hid (Boxed.keep B.out (b7))
        | replace B := Lib.hid (Dat.belowAll B.out (b7))
        | replace B := Lib.hid (Fr.belowAll B.out (b7))
        | replace B := Lib.hid (Own.belowAll B.out (b7))
        | replace B := Lib.hid (Grows.next B.out (b7))
      first
        | replace AY := Lib.hid (Loc.At.belowAll AY.out (b7))
        | replace AY := Lib.hid (nextB AY.out (b7))
        | replace AY := Lib.hid (Boxed.keep AY.out (b7))
        | replace AY := Lib.hid (Dat.belowAll AY.out (b7))
        | replace AY := Lib.hid (Fr.belowAll AY.out (b7))
        | replace AY := Lib.hid (Own.belowAll AY.out (b7))
        | replace AY := Lib.hid (Grows.next AY.out (b7))
      clear hp hpA b7
      go_wp2_with fail
      refine (iSibsShow_any p w7 AP.out (by rw [HPE.out]; exact sibsOK_one (writeOK_iff.1 HW2.out.2.1).2.2.1)).mono ?_
      rintro e w8 ⟨⟨la, lc, ls⟩, rfl, hl, hlA, -, b8⟩
      have hls : ls = [⟨#[98, 99]⟩] := by
        have : ls = showTexts (p.xs.map LSib.er) := hl
        rw [this, HPE.out]; rfl
      subst hls
      have AL := Lib.hid hlA
      first
        | replace B := Lib.hid (Loc.At.belowAll B.out (b8))
        | replace B := Lib.hid (nextB B.out (b8))
        | replace B := Lib.hid (Boxed.keep B.out (b8))
        | replace B := Lib.hid (Dat.belowAll B.out (b8))
        | replace B := Lib.hid (Fr.belowAll B.out (b8))
        | replace B := Lib.hid (Own.belowAll B.out (b8))
        | replace B := Lib.hid (Grows.next B.out (b8))
      first
        | replace AY := Lib.hid (Loc.At.belowAll AY.out (b8))
        | replace AY := Lib.hid (nextB AY.out (b8))
        | replace AY := Lib.hid (Boxed.keep AY.out (b8))
        | replace AY := Lib.hid (Dat.belowAll AY.out (b8))
        | replace AY := Lib.hid (Fr.belowAll AY.out (b8))
        | replace AY := Lib.hid (Own.belowAll AY.out (b8))
        | replace AY := Lib.hid (Grows.next AY.out (b8))
      clear hl hlA b8
      simp only [Loc.val]
      go_wp2_with fail
      refine (treeAt_ok ⟨ya, yc, ys⟩ n w8 AY.out HYE.out HYT.out).mono ?_
      rintro e w9 ⟨q, rfl, hq, hqA, -, b9⟩
      have HQE := Lib.hid (show q.xs.map LSib.er = [newSib X site n true ⟨#[]⟩] from hq.trans HYN.out)
      have AQ := Lib.hid hqA
      first
        | replace B := Lib.hid (Loc.At.belowAll B.out (b9))
        | replace B := Lib.hid (nextB B.out (b9))
        | replace B := Lib.hid (Boxed.keep B.out (b9))
        | replace B := Lib.hid (Dat.belowAll B.out (b9))
        | replace B := Lib.hid (Fr.belowAll B.out (b9))
        | replace B := Lib.hid (Own.belowAll B.out (b9))
        | replace B := Lib.hid (Grows.next B.out (b9))
      first
        | replace AL := Lib.hid (Loc.At.belowAll AL.out (b9))
        | replace AL := Lib.hid (nextB AL.out (b9))
        | replace AL := Lib.hid (Boxed.keep AL.out (b9))
        | replace AL := Lib.hid (Dat.belowAll AL.out (b9))
        | replace AL := Lib.hid (Fr.belowAll AL.out (b9))
        | replace AL := Lib.hid (Own.belowAll AL.out (b9))
        | replace AL := Lib.hid (Grows.next AL.out (b9))
      clear hq hqA b9
      go_wp2_with fail
      refine (iSibsShow_any q w9 AQ.out (by rw [HQE.out]; exact sibsOK_one (writeOK_iff.1 HW1.out.2.1).2.2.1)).mono ?_
      rintro e wa ⟨⟨ka, kc, ks⟩, rfl, hk, -, -, ba⟩
      have hks : ks = [] := by
        have : ks = showTexts (q.xs.map LSib.er) := hk
        rw [this, HQE.out]; rfl
      subst hks
      first
        | replace B := Lib.hid (Loc.At.belowAll B.out (ba))
        | replace B := Lib.hid (nextB B.out (ba))
        | replace B := Lib.hid (Boxed.keep B.out (ba))
        | replace B := Lib.hid (Dat.belowAll B.out (ba))
        | replace B := Lib.hid (Fr.belowAll B.out (ba))
        | replace B := Lib.hid (Own.belowAll B.out (ba))
        | replace B := Lib.hid (Grows.next B.out (ba))
      first
        | replace AL := Lib.hid (Loc.At.belowAll AL.out (ba))
        | replace AL := Lib.hid (nextB AL.out (ba))
        | replace AL := Lib.hid (Boxed.keep AL.out (ba))
        | replace AL := Lib.hid (Dat.belowAll AL.out (ba))
        | replace AL := Lib.hid (Fr.belowAll AL.out (ba))
        | replace AL := Lib.hid (Own.belowAll AL.out (ba))
        | replace AL := Lib.hid (Grows.next AL.out (ba))
      clear hk ba
      obtain ⟨lb, lo, hla⟩ := AL.out.place (show 0 < [(⟨#[98, 99]⟩ : ByteArray)].length by decide)
      simp only at hla
      subst hla
      have cl : wa.cell? ⟨lb, lo, none⟩ = some (.string ⟨#[98, 99]⟩) := by
        have := AL.out.cellK (b := lb) (o := lo) rfl (i := 0) (show 0 < [(⟨#[98, 99]⟩ : ByteArray)].length by decide) (j := 0) (v := .string ⟨#[98, 99]⟩) rfl
        simpa [Dat.k] using this
      simp only [Loc.val, List.length_nil, List.length_singleton]
      have hbl := bc_list
      go_wp2_with fail
      go_ret
      exact ⟨rfl, B.out⟩
end Go.Proofs.YtdidkfadiaafiaaDoor
