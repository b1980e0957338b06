/- The walk of FnWriteMerge. -/
import Derived.Test.YtdidkfadiaafiaaGreatDoorMergeKit
namespace Go.Proofs.YtdidkfadiaafiaaGreatDoor
open Go Go.RowKit

set_option maxRecDepth 100000 in
set_option maxHeartbeats 4000000 in
theorem writeMerge_walk (x : Loc UInt8) (w : World) (hx : x.At w) :
    Calls Tryz.prog 5 #[x.val] w fun e w' => e = .returned (.bool true) ∧ Below w.heap.size w w' := by
  have h1 := hx.lenMax
  have HX0 := Lib.hid hx
  clear hx
  by_cases hbig : (1048576 : Int) < (x.xs.length : Int)
  · obtain ⟨xa, xc, xs⟩ := x
    simp only [Loc.val] at hbig ⊢
    go_enter Tryz.func5, Tryz.ntmps5
    go_wp2_with fail
    go_ret
    exact ⟨rfl, Below.refl _ _⟩
  have hc := Lib.hid (drawTreeWrite_any x w HX0.out)
  obtain ⟨ua, uc, us⟩ := x
  simp only [Loc.val] at hbig hc ⊢
  go_enter Tryz.func5, Tryz.ntmps5
  go_wp2_with fail
  refine hc.out.mono ?_
  rintro e w1 ⟨⟨ta, tc, ts⟩, site, n, g, s, rfl, h5, hs1, hs6, hnm, hst, hA, b1⟩
  have HNM := Lib.hid (show n ∈ sixN from hnm)
  have HN : Hid (n.size ≤ maxLen) := Lib.hid (by have := sixN_size HNM.out; simp only [maxLen]; omega)
  have HST : Hid (s.size ≤ maxLen) := Lib.hid (by simp only [maxLen]; omega)
  have HSI : Hid (-9223372036854775808 ≤ site ∧ site ≤ 9223372036854775807) := Lib.hid (by omega)
  have B := Lib.hid b1
  have AT := Lib.hid hA
  obtain ⟨T, hT⟩ : ∃ T, ts.map LFile.er = T := ⟨_, rfl⟩
  have HTE := Lib.hid hT
  obtain ⟨⟨X, ok⟩, hP⟩ : ∃ P, writeZ T site n g s = P := ⟨_, rfl⟩
  have HP := Lib.hid hP
  clear hc hnm hst hA b1 hP hT h5
  simp only [Loc.val]
  go_wp2_with fail
  refine (sTreeWrite_any ⟨ta, tc, ts⟩ site n g s w1 AT.out HSI.out HN.out HST.out).mono ?_
  rw [HTE.out, HP.out]
  rintro e w2 ⟨⟨va, vc, vs⟩, rfl, hv, hvA, b2⟩
  have HVE := Lib.hid hv
  have AV := Lib.hid hvA
  first
    | replace B := Lib.hid (Loc.At.belowAll B.out (b2))
    | replace B := Lib.hid (nextB B.out (b2))
    | replace B := Lib.hid (Boxed.keep B.out (b2))
    | replace B := Lib.hid (Dat.belowAll B.out (b2))
    | replace B := Lib.hid (Fr.belowAll B.out (b2))
    | replace B := Lib.hid (Own.belowAll B.out (b2))
    | replace B := Lib.hid (Grows.next B.out (b2))
  first
    | replace AT := Lib.hid (Loc.At.belowAll AT.out (b2))
    | replace AT := Lib.hid (nextB AT.out (b2))
    | replace AT := Lib.hid (Boxed.keep AT.out (b2))
    | replace AT := Lib.hid (Dat.belowAll AT.out (b2))
    | replace AT := Lib.hid (Fr.belowAll AT.out (b2))
    | replace AT := Lib.hid (Own.belowAll AT.out (b2))
    | replace AT := Lib.hid (Grows.next AT.out (b2))
  clear hv hvA b2
  simp only [Loc.val]
  go_wp2_with fail
  refine (iTreeWrite_any ⟨ta, tc, ts⟩ site n g s w2 AT.out HSI.out HN.out HST.out).mono ?_
  rw [HTE.out, HP.out]
  rintro e w3 ⟨⟨xa, xc, xs⟩, rfl, hx, hxA, -, b3⟩
  have HXE := Lib.hid (show xs.map LFile.er = X from hx)
  have AX := Lib.hid hxA
  first
    | replace B := Lib.hid (Loc.At.belowAll B.out (b3))
    | replace B := Lib.hid (nextB B.out (b3))
    | replace B := Lib.hid (Boxed.keep B.out (b3))
    | replace B := Lib.hid (Dat.belowAll B.out (b3))
    | replace B := Lib.hid (Fr.belowAll B.out (b3))
    | replace B := Lib.hid (Own.belowAll B.out (b3))
    | replace B := Lib.hid (Grows.next B.out (b3))
  first
    | replace AT := Lib.hid (Loc.At.belowAll AT.out (b3))
    | replace AT := Lib.hid (nextB AT.out (b3))
    | replace AT := Lib.hid (Boxed.keep AT.out (b3))
    | replace AT := Lib.hid (Dat.belowAll AT.out (b3))
    | replace AT := Lib.hid (Fr.belowAll AT.out (b3))
    | replace AT := Lib.hid (Own.belowAll AT.out (b3))
    | replace AT := Lib.hid (Grows.next AT.out (b3))
  first
    | replace AV := Lib.hid (Loc.At.belowAll AV.out (b3))
    | replace AV := Lib.hid (nextB AV.out (b3))
    | replace AV := Lib.hid (Boxed.keep AV.out (b3))
    | replace AV := Lib.hid (Dat.belowAll AV.out (b3))
    | replace AV := Lib.hid (Fr.belowAll AV.out (b3))
    | replace AV := Lib.hid (Own.belowAll AV.out (b3))
    | replace AV := Lib.hid (Grows.next AV.out (b3))
  clear hx hxA b3
  have hbb : (ok != ok) = false := by simp
  have hbe : (ok == ok) = true := by simp
  have HXV : Hid ((⟨xa, xc, xs⟩ : Loc LFile).xs.map LFile.er = (⟨va, vc, vs⟩ : Loc LFile).xs.map LFile.er) := Lib.hid (HXE.out.trans HVE.out.symm)
  simp only [Loc.val]
  go_wp2_with fail
  refine (lvTree_yes ⟨xa, xc, xs⟩ ⟨va, vc, vs⟩ w3 AX.out AV.out HXV.out).mono ?_
  rintro e w4 ⟨rfl, b4⟩
  first
    | replace B := Lib.hid (Loc.At.belowAll B.out (b4))
    | replace B := Lib.hid (nextB B.out (b4))
    | replace B := Lib.hid (Boxed.keep B.out (b4))
    | replace B := Lib.hid (Dat.belowAll B.out (b4))
    | replace B := Lib.hid (Fr.belowAll B.out (b4))
    | replace B := Lib.hid (Own.belowAll B.out (b4))
    | replace B := Lib.hid (Grows.next B.out (b4))
  first
    | replace AT := Lib.hid (Loc.At.belowAll AT.out (b4))
    | replace AT := Lib.hid (nextB AT.out (b4))
    | replace AT := Lib.hid (Boxed.keep AT.out (b4))
    | replace AT := Lib.hid (Dat.belowAll AT.out (b4))
    | replace AT := Lib.hid (Fr.belowAll AT.out (b4))
    | replace AT := Lib.hid (Own.belowAll AT.out (b4))
    | replace AT := Lib.hid (Grows.next AT.out (b4))
  first
    | replace AV := Lib.hid (Loc.At.belowAll AV.out (b4))
    | replace AV := Lib.hid (nextB AV.out (b4))
    | replace AV := Lib.hid (Boxed.keep AV.out (b4))
    | replace AV := Lib.hid (Dat.belowAll AV.out (b4))
    | replace AV := Lib.hid (Fr.belowAll AV.out (b4))
    | replace AV := Lib.hid (Own.belowAll AV.out (b4))
    | replace AV := Lib.hid (Grows.next AV.out (b4))
  first
    | replace AX := Lib.hid (Loc.At.belowAll AX.out (b4))
    | replace AX := Lib.hid (nextB AX.out (b4))
    | replace AX := Lib.hid (Boxed.keep AX.out (b4))
    | replace AX := Lib.hid (Dat.belowAll AX.out (b4))
    | replace AX := Lib.hid (Fr.belowAll AX.out (b4))
    | replace AX := Lib.hid (Own.belowAll AX.out (b4))
    | replace AX := Lib.hid (Grows.next AX.out (b4))
  clear b4
  cases ok with
  | false =>
    go_wp2_with fail
    refine (lvTree_yes ⟨xa, xc, xs⟩ ⟨va, vc, vs⟩ w4 AX.out AV.out HXV.out).mono ?_
    rintro e w9 ⟨rfl, b9⟩
    first
      | replace B := Lib.hid (Loc.At.belowAll B.out (b9))
      | replace B := Lib.hid (nextB B.out (b9))
      | replace B := Lib.hid (Boxed.keep B.out (b9))
      | replace B := Lib.hid (Dat.belowAll B.out (b9))
      | replace B := Lib.hid (Fr.belowAll B.out (b9))
      | replace B := Lib.hid (Own.belowAll B.out (b9))
      | replace B := Lib.hid (Grows.next B.out (b9))
    clear b9
    go_wp2_with fail
    go_ret
    exact ⟨rfl, B.out⟩
  | true =>
    have HM := Lib.hid (writeMerge_law HP.out)
    go_wp2_with fail
    refine (iTreeMerge_any ⟨ta, tc, ts⟩ ⟨xa, xc, xs⟩ w4 AT.out AX.out).mono ?_
    rw [show (⟨ta, tc, ts⟩ : Loc LFile).xs.map LFile.er = T from HTE.out, show (⟨xa, xc, xs⟩ : Loc LFile).xs.map LFile.er = X from HXE.out, HM.out]
    rintro e w5 ⟨⟨ma, mc, ms⟩, rfl, hm, hmA, -, b5⟩
    have HME := Lib.hid (show ms.map LFile.er = X from hm)
    have AM := Lib.hid hmA
    first
      | replace B := Lib.hid (Loc.At.belowAll B.out (b5))
      | replace B := Lib.hid (nextB B.out (b5))
      | replace B := Lib.hid (Boxed.keep B.out (b5))
      | replace B := Lib.hid (Dat.belowAll B.out (b5))
      | replace B := Lib.hid (Fr.belowAll B.out (b5))
      | replace B := Lib.hid (Own.belowAll B.out (b5))
      | replace B := Lib.hid (Grows.next B.out (b5))
    first
      | replace AX := Lib.hid (Loc.At.belowAll AX.out (b5))
      | replace AX := Lib.hid (nextB AX.out (b5))
      | replace AX := Lib.hid (Boxed.keep AX.out (b5))
      | replace AX := Lib.hid (Dat.belowAll AX.out (b5))
      | replace AX := Lib.hid (Fr.belowAll AX.out (b5))
      | replace AX := Lib.hid (Own.belowAll AX.out (b5))
      | replace AX := Lib.hid (Grows.next AX.out (b5))
    clear hm hmA b5
    simp only [Loc.val]
    go_wp2_with fail
    refine (lvTree_yes ⟨ma, mc, ms⟩ ⟨xa, xc, xs⟩ w5 AM.out AX.out (HME.out.trans HXE.out.symm)).mono ?_
    rintro e w6 ⟨rfl, b6⟩
    first
      | replace B := Lib.hid (Loc.At.belowAll B.out (b6))
      | replace B := Lib.hid (nextB B.out (b6))
      | replace B := Lib.hid (Boxed.keep B.out (b6))
      | replace B := Lib.hid (Dat.belowAll B.out (b6))
      | replace B := Lib.hid (Fr.belowAll B.out (b6))
      | replace B := Lib.hid (Own.belowAll B.out (b6))
      | replace B := Lib.hid (Grows.next B.out (b6))
    clear b6
    go_wp2_with fail
    go_ret
    exact ⟨rfl, B.out⟩
end Go.Proofs.YtdidkfadiaafiaaGreatDoor
