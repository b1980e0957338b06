/- The walk of FnTreeThree. -/
import Derived.Test.YtdidkfadiaafiaaGreatDoorMergeKit
import Derived.Test.YtdidkfadiaafiaaGreatDoorDraw5
namespace Go.Proofs.YtdidkfadiaafiaaGreatDoor
open Go Go.RowKit

set_option maxRecDepth 100000 in
set_option maxHeartbeats 4000000 in
theorem treeThree_walk (x y : Loc UInt8) (w : World) (hx : x.At w) (hy : y.At w) :
    Calls Tryz.prog 8 #[x.val, y.val] w fun e w' => e = .returned (.bool true) ∧ Below w.heap.size w w' := by
  have HMY := Lib.hid hy
  have h1 := hx.lenMax
  have h2 := hy.lenMax
  have HX0 := Lib.hid hx
  clear hx hy
  by_cases hbig : (1048576 : Int) < (x.xs.length : Int)
  · obtain ⟨xa, xc, xs⟩ := x
    obtain ⟨ya, yc, ys⟩ := y
    simp only [Loc.val] at hbig ⊢
    go_enter Tryz.func8, Tryz.ntmps8
    go_wp2_with fail
    go_ret
    exact ⟨rfl, Below.refl _ _⟩
  by_cases hbig2 : (1048576 : Int) < (y.xs.length : Int)
  · obtain ⟨xa, xc, xs⟩ := x
    obtain ⟨ya, yc, ys⟩ := y
    simp only [Loc.val] at hbig hbig2 ⊢
    go_enter Tryz.func8, Tryz.ntmps8
    go_wp2_with fail
    go_ret
    exact ⟨rfl, Below.refl _ _⟩
  have hc := Lib.hid (drawTreeMerge_any x w HX0.out)
  obtain ⟨ua, uc, us⟩ := x
  obtain ⟨ma, mc, ms⟩ := y
  simp only [Loc.val] at hbig hbig2 hc ⊢
  go_enter Tryz.func8, Tryz.ntmps8
  go_wp2_with fail
  refine hc.out.mono ?_
  rintro e w1 ⟨⟨fa, fc, fs⟩, ⟨ba, bc, bs⟩, rfl, -, -, hA, hBt, b1⟩
  have B := Lib.hid b1
  have AA := Lib.hid hA
  have AB := Lib.hid hBt
  obtain ⟨T, hT⟩ : ∃ T, fs.map LFile.er = T := ⟨_, rfl⟩
  obtain ⟨S, hS⟩ : ∃ S, bs.map LFile.er = S := ⟨_, rfl⟩
  have HTE := Lib.hid hT
  have HSE := Lib.hid hS
  obtain ⟨⟨X, ok⟩, hP⟩ : ∃ P, mergeTZ T S = P := ⟨_, rfl⟩
  have HP := Lib.hid hP
  clear hc hA hBt b1 hP hT hS
  simp only [Loc.val]
  go_wp2_with fail
  refine (sTreeMerge_any ⟨fa, fc, fs⟩ ⟨ba, bc, bs⟩ w1 AA.out AB.out).mono ?_
  rw [HTE.out, HSE.out, HP.out]
  rintro e w2 ⟨⟨va, vc, vs⟩, rfl, hv, hvA, b2⟩
  have HVE := Lib.hid hv
  have AV := Lib.hid hvA
  first
    | replace B := Lib.hid (Loc.At.belowAll B.out (b2))
    | replace B := Lib.hid (nextB B.out (b2))
    | replace B := Lib.hid (Boxed.keep B.out (b2))
    | replace B := Lib.hid (Dat.belowAll B.out (b2))
    | replace B := Lib.hid (Fr.belowAll B.out (b2))
    | replace B := Lib.hid (Own.belowAll B.out (b2))
    | replace B := Lib.hid (Grows.next B.out (b2))
  first
    | replace AA := Lib.hid (Loc.At.belowAll AA.out (b2))
    | replace AA := Lib.hid (nextB AA.out (b2))
    | replace AA := Lib.hid (Boxed.keep AA.out (b2))
    | replace AA := Lib.hid (Dat.belowAll AA.out (b2))
    | replace AA := Lib.hid (Fr.belowAll AA.out (b2))
    | replace AA := Lib.hid (Own.belowAll AA.out (b2))
    | replace AA := Lib.hid (Grows.next AA.out (b2))
  first
    | replace AB := Lib.hid (Loc.At.belowAll AB.out (b2))
    | replace AB := Lib.hid (nextB AB.out (b2))
    | replace AB := Lib.hid (Boxed.keep AB.out (b2))
    | replace AB := Lib.hid (Dat.belowAll AB.out (b2))
    | replace AB := Lib.hid (Fr.belowAll AB.out (b2))
    | replace AB := Lib.hid (Own.belowAll AB.out (b2))
    | replace AB := Lib.hid (Grows.next AB.out (b2))
  clear hv hvA b2
  simp only [Loc.val]
  go_wp2_with fail
  refine (iTreeMerge_any ⟨fa, fc, fs⟩ ⟨ba, bc, bs⟩ w2 AA.out AB.out).mono ?_
  rw [HTE.out, HSE.out, HP.out]
  rintro e w3 ⟨⟨xa, xc, xs⟩, rfl, hx, hxA, -, b3⟩
  have HXE := Lib.hid (show xs.map LFile.er = X from hx)
  have AX := Lib.hid hxA
  first
    | replace B := Lib.hid (Loc.At.belowAll B.out (b3))
    | replace B := Lib.hid (nextB B.out (b3))
    | replace B := Lib.hid (Boxed.keep B.out (b3))
    | replace B := Lib.hid (Dat.belowAll B.out (b3))
    | replace B := Lib.hid (Fr.belowAll B.out (b3))
    | replace B := Lib.hid (Own.belowAll B.out (b3))
    | replace B := Lib.hid (Grows.next B.out (b3))
  first
    | replace AA := Lib.hid (Loc.At.belowAll AA.out (b3))
    | replace AA := Lib.hid (nextB AA.out (b3))
    | replace AA := Lib.hid (Boxed.keep AA.out (b3))
    | replace AA := Lib.hid (Dat.belowAll AA.out (b3))
    | replace AA := Lib.hid (Fr.belowAll AA.out (b3))
    | replace AA := Lib.hid (Own.belowAll AA.out (b3))
    | replace AA := Lib.hid (Grows.next AA.out (b3))
  first
    | replace AB := Lib.hid (Loc.At.belowAll AB.out (b3))
    | replace AB := Lib.hid (nextB AB.out (b3))
    | replace AB := Lib.hid (Boxed.keep AB.out (b3))
    | replace AB := Lib.hid (Dat.belowAll AB.out (b3))
    | replace AB := Lib.hid (Fr.belowAll AB.out (b3))
    | replace AB := Lib.hid (Own.belowAll AB.out (b3))
    | replace AB := Lib.hid (Grows.next AB.out (b3))
  first
    | replace AV := Lib.hid (Loc.At.belowAll AV.out (b3))
    | replace AV := Lib.hid (nextB AV.out (b3))
    | replace AV := Lib.hid (Boxed.keep AV.out (b3))
    | replace AV := Lib.hid (Dat.belowAll AV.out (b3))
    | replace AV := Lib.hid (Fr.belowAll AV.out (b3))
    | replace AV := Lib.hid (Own.belowAll AV.out (b3))
    | replace AV := Lib.hid (Grows.next AV.out (b3))
  clear hx hxA b3
  have hbb : (ok != ok) = false := by simp
  have hbe : (ok == ok) = true := by simp
  have HXV : Hid ((⟨xa, xc, xs⟩ : Loc LFile).xs.map LFile.er = (⟨va, vc, vs⟩ : Loc LFile).xs.map LFile.er) := Lib.hid (HXE.out.trans HVE.out.symm)
  simp only [Loc.val]
  go_wp2_with fail
  refine (lvTree_yes ⟨xa, xc, xs⟩ ⟨va, vc, vs⟩ w3 AX.out AV.out HXV.out).mono ?_
  rintro e w4 ⟨rfl, b4⟩
  first
    | replace B := Lib.hid (Loc.At.belowAll B.out (b4))
    | replace B := Lib.hid (nextB B.out (b4))
    | replace B := Lib.hid (Boxed.keep B.out (b4))
    | replace B := Lib.hid (Dat.belowAll B.out (b4))
    | replace B := Lib.hid (Fr.belowAll B.out (b4))
    | replace B := Lib.hid (Own.belowAll B.out (b4))
    | replace B := Lib.hid (Grows.next B.out (b4))
  first
    | replace AA := Lib.hid (Loc.At.belowAll AA.out (b4))
    | replace AA := Lib.hid (nextB AA.out (b4))
    | replace AA := Lib.hid (Boxed.keep AA.out (b4))
    | replace AA := Lib.hid (Dat.belowAll AA.out (b4))
    | replace AA := Lib.hid (Fr.belowAll AA.out (b4))
    | replace AA := Lib.hid (Own.belowAll AA.out (b4))
    | replace AA := Lib.hid (Grows.next AA.out (b4))
  first
    | replace AB := Lib.hid (Loc.At.belowAll AB.out (b4))
    | replace AB := Lib.hid (nextB AB.out (b4))
    | replace AB := Lib.hid (Boxed.keep AB.out (b4))
    | replace AB := Lib.hid (Dat.belowAll AB.out (b4))
    | replace AB := Lib.hid (Fr.belowAll AB.out (b4))
    | replace AB := Lib.hid (Own.belowAll AB.out (b4))
    | replace AB := Lib.hid (Grows.next AB.out (b4))
  first
    | replace AV := Lib.hid (Loc.At.belowAll AV.out (b4))
    | replace AV := Lib.hid (nextB AV.out (b4))
    | replace AV := Lib.hid (Boxed.keep AV.out (b4))
    | replace AV := Lib.hid (Dat.belowAll AV.out (b4))
    | replace AV := Lib.hid (Fr.belowAll AV.out (b4))
    | replace AV := Lib.hid (Own.belowAll AV.out (b4))
    | replace AV := Lib.hid (Grows.next AV.out (b4))
  first
    | replace AX := Lib.hid (Loc.At.belowAll AX.out (b4))
    | replace AX := Lib.hid (nextB AX.out (b4))
    | replace AX := Lib.hid (Boxed.keep AX.out (b4))
    | replace AX := Lib.hid (Dat.belowAll AX.out (b4))
    | replace AX := Lib.hid (Fr.belowAll AX.out (b4))
    | replace AX := Lib.hid (Own.belowAll AX.out (b4))
    | replace AX := Lib.hid (Grows.next AX.out (b4))
  clear b4
  cases ok with
  | false =>
    go_wp2_with fail
    refine (lvTree_yes ⟨xa, xc, xs⟩ ⟨va, vc, vs⟩ w4 AX.out AV.out HXV.out).mono ?_
    rintro e w9 ⟨rfl, b9⟩
    first
      | replace B := Lib.hid (Loc.At.belowAll B.out (b9))
      | replace B := Lib.hid (nextB B.out (b9))
      | replace B := Lib.hid (Boxed.keep B.out (b9))
      | replace B := Lib.hid (Dat.belowAll B.out (b9))
      | replace B := Lib.hid (Fr.belowAll B.out (b9))
      | replace B := Lib.hid (Own.belowAll B.out (b9))
      | replace B := Lib.hid (Grows.next B.out (b9))
    clear b9
    go_wp2_with fail
    go_ret
    exact ⟨rfl, B.out⟩
  | true =>
    have EA : Hid ((⟨fa, fc, fs⟩ : Loc LFile).xs.map LFile.er = T) := Lib.hid HTE.out
    have EB : Hid ((⟨ba, bc, bs⟩ : Loc LFile).xs.map LFile.er = S) := Lib.hid HSE.out
    have EX : Hid ((⟨xa, xc, xs⟩ : Loc LFile).xs.map LFile.er = X) := Lib.hid HXE.out
    have HC := Lib.hid (drawTreeShow_any ⟨ma, mc, ms⟩ w4 (HMY.out.belowAll B.out))
    go_wp2_with fail
    refine HC.out.mono ?_
    rintro e w5 ⟨⟨da, dc, ds⟩, rfl, -, hdA, b5⟩
    have AD := Lib.hid hdA
    first
      | replace B := Lib.hid (Loc.At.belowAll B.out (b5))
      | replace B := Lib.hid (nextB B.out (b5))
      | replace B := Lib.hid (Boxed.keep B.out (b5))
      | replace B := Lib.hid (Dat.belowAll B.out (b5))
      | replace B := Lib.hid (Fr.belowAll B.out (b5))
      | replace B := Lib.hid (Own.belowAll B.out (b5))
      | replace B := Lib.hid (Grows.next B.out (b5))
    first
      | replace AA := Lib.hid (Loc.At.belowAll AA.out (b5))
      | replace AA := Lib.hid (nextB AA.out (b5))
      | replace AA := Lib.hid (Boxed.keep AA.out (b5))
      | replace AA := Lib.hid (Dat.belowAll AA.out (b5))
      | replace AA := Lib.hid (Fr.belowAll AA.out (b5))
      | replace AA := Lib.hid (Own.belowAll AA.out (b5))
      | replace AA := Lib.hid (Grows.next AA.out (b5))
    first
      | replace AB := Lib.hid (Loc.At.belowAll AB.out (b5))
      | replace AB := Lib.hid (nextB AB.out (b5))
      | replace AB := Lib.hid (Boxed.keep AB.out (b5))
      | replace AB := Lib.hid (Dat.belowAll AB.out (b5))
      | replace AB := Lib.hid (Fr.belowAll AB.out (b5))
      | replace AB := Lib.hid (Own.belowAll AB.out (b5))
      | replace AB := Lib.hid (Grows.next AB.out (b5))
    first
      | replace AX := Lib.hid (Loc.At.belowAll AX.out (b5))
      | replace AX := Lib.hid (nextB AX.out (b5))
      | replace AX := Lib.hid (Boxed.keep AX.out (b5))
      | replace AX := Lib.hid (Dat.belowAll AX.out (b5))
      | replace AX := Lib.hid (Fr.belowAll AX.out (b5))
      | replace AX := Lib.hid (Own.belowAll AX.out (b5))
      | replace AX := Lib.hid (Grows.next AX.out (b5))
    clear hdA b5 HC
    obtain ⟨D, hD⟩ : ∃ D, ds.map LFile.er = D := ⟨_, rfl⟩
    have ED : Hid ((⟨da, dc, ds⟩ : Loc LFile).xs.map LFile.er = D) := Lib.hid hD
    clear hD
    obtain ⟨⟨U1, o1⟩, h1'⟩ : ∃ P, mergeTZ X D = P := ⟨_, rfl⟩
    obtain ⟨⟨U2, o2⟩, h2'⟩ : ∃ P, mergeTZ S D = P := ⟨_, rfl⟩
    obtain ⟨⟨U3, o3⟩, h3'⟩ : ∃ P, mergeTZ T U2 = P := ⟨_, rfl⟩
    have Q1 := Lib.hid h1'
    have Q2 := Lib.hid h2'
    have Q3 := Lib.hid h3'
    clear h1' h2' h3'
    simp only [Loc.val]
    go_wp2_with fail
    refine (iTreeMerge_any ⟨xa, xc, xs⟩ ⟨da, dc, ds⟩ w5 AX.out AD.out).mono ?_
    rw [EX.out, ED.out, Q1.out]
    rintro e w6 ⟨⟨ka, kc, ks⟩, rfl, hm8, hmA, -, b8⟩
    have kE := Lib.hid hm8
    have kA := Lib.hid hmA
    clear hm8 hmA
    simp only [Loc.val]
    first
      | replace B := Lib.hid (Loc.At.belowAll B.out (b8))
      | replace B := Lib.hid (nextB B.out (b8))
      | replace B := Lib.hid (Boxed.keep B.out (b8))
      | replace B := Lib.hid (Dat.belowAll B.out (b8))
      | replace B := Lib.hid (Fr.belowAll B.out (b8))
      | replace B := Lib.hid (Own.belowAll B.out (b8))
      | replace B := Lib.hid (Grows.next B.out (b8))
    first
      | replace AA := Lib.hid (Loc.At.belowAll AA.out (b8))
      | replace AA := Lib.hid (nextB AA.out (b8))
      | replace AA := Lib.hid (Boxed.keep AA.out (b8))
      | replace AA := Lib.hid (Dat.belowAll AA.out (b8))
      | replace AA := Lib.hid (Fr.belowAll AA.out (b8))
      | replace AA := Lib.hid (Own.belowAll AA.out (b8))
      | replace AA := Lib.hid (Grows.next AA.out (b8))
    first
      | replace AB := Lib.hid (Loc.At.belowAll AB.out (b8))
      | replace AB := Lib.hid (nextB AB.out (b8))
      | replace AB := Lib.hid (Boxed.keep AB.out (b8))
      | replace AB := Lib.hid (Dat.belowAll AB.out (b8))
      | replace AB := Lib.hid (Fr.belowAll AB.out (b8))
      | replace AB := Lib.hid (Own.belowAll AB.out (b8))
      | replace AB := Lib.hid (Grows.next AB.out (b8))
    first
      | replace AD := Lib.hid (Loc.At.belowAll AD.out (b8))
      | replace AD := Lib.hid (nextB AD.out (b8))
      | replace AD := Lib.hid (Boxed.keep AD.out (b8))
      | replace AD := Lib.hid (Dat.belowAll AD.out (b8))
      | replace AD := Lib.hid (Fr.belowAll AD.out (b8))
      | replace AD := Lib.hid (Own.belowAll AD.out (b8))
      | replace AD := Lib.hid (Grows.next AD.out (b8))
    clear b8
    go_wp2_with fail
    refine (iTreeMerge_any ⟨ba, bc, bs⟩ ⟨da, dc, ds⟩ w6 AB.out AD.out).mono ?_
    rw [EB.out, ED.out, Q2.out]
    rintro e w7 ⟨⟨oa, oc, os⟩, rfl, hm8, hmA, -, b8⟩
    have oE := Lib.hid hm8
    have oA := Lib.hid hmA
    clear hm8 hmA
    simp only [Loc.val]
    first
      | replace B := Lib.hid (Loc.At.belowAll B.out (b8))
      | replace B := Lib.hid (nextB B.out (b8))
      | replace B := Lib.hid (Boxed.keep B.out (b8))
      | replace B := Lib.hid (Dat.belowAll B.out (b8))
      | replace B := Lib.hid (Fr.belowAll B.out (b8))
      | replace B := Lib.hid (Own.belowAll B.out (b8))
      | replace B := Lib.hid (Grows.next B.out (b8))
    first
      | replace AA := Lib.hid (Loc.At.belowAll AA.out (b8))
      | replace AA := Lib.hid (nextB AA.out (b8))
      | replace AA := Lib.hid (Boxed.keep AA.out (b8))
      | replace AA := Lib.hid (Dat.belowAll AA.out (b8))
      | replace AA := Lib.hid (Fr.belowAll AA.out (b8))
      | replace AA := Lib.hid (Own.belowAll AA.out (b8))
      | replace AA := Lib.hid (Grows.next AA.out (b8))
    first
      | replace kA := Lib.hid (Loc.At.belowAll kA.out (b8))
      | replace kA := Lib.hid (nextB kA.out (b8))
      | replace kA := Lib.hid (Boxed.keep kA.out (b8))
      | replace kA := Lib.hid (Dat.belowAll kA.out (b8))
      | replace kA := Lib.hid (Fr.belowAll kA.out (b8))
      | replace kA := Lib.hid (Own.belowAll kA.out (b8))
      | replace kA := Lib.hid (Grows.next kA.out (b8))
    clear b8
    have EO : Hid ((⟨oa, oc, os⟩ : Loc LFile).xs.map LFile.er = U2) := Lib.hid oE.out
    go_wp2_with fail
    refine (iTreeMerge_any ⟨fa, fc, fs⟩ ⟨oa, oc, os⟩ w7 AA.out oA.out).mono ?_
    rw [EA.out, EO.out, Q3.out]
    rintro e w8 ⟨⟨na, nc, ns⟩, rfl, hm8, hmA, -, b8⟩
    have nE := Lib.hid hm8
    have nA := Lib.hid hmA
    clear hm8 hmA
    simp only [Loc.val]
    first
      | replace B := Lib.hid (Loc.At.belowAll B.out (b8))
      | replace B := Lib.hid (nextB B.out (b8))
      | replace B := Lib.hid (Boxed.keep B.out (b8))
      | replace B := Lib.hid (Dat.belowAll B.out (b8))
      | replace B := Lib.hid (Fr.belowAll B.out (b8))
      | replace B := Lib.hid (Own.belowAll B.out (b8))
      | replace B := Lib.hid (Grows.next B.out (b8))
    first
      | replace kA := Lib.hid (Loc.At.belowAll kA.out (b8))
      | replace kA := Lib.hid (nextB kA.out (b8))
      | replace kA := Lib.hid (Boxed.keep kA.out (b8))
      | replace kA := Lib.hid (Dat.belowAll kA.out (b8))
      | replace kA := Lib.hid (Fr.belowAll kA.out (b8))
      | replace kA := Lib.hid (Own.belowAll kA.out (b8))
      | replace kA := Lib.hid (Grows.next kA.out (b8))
    clear b8
    cases o1 with
    | false =>
      go_wp2_with fail
      go_ret
      exact ⟨rfl, B.out⟩
    | true =>
      cases o2 with
      | false =>
        go_wp2_with fail
        go_ret
        exact ⟨rfl, B.out⟩
      | true =>
        cases o3 with
        | false =>
          go_wp2_with fail
          go_ret
          exact ⟨rfl, B.out⟩
        | true =>
          have HL := Lib.hid (three_law HP.out Q1.out Q2.out Q3.out)
          go_wp2_with fail
          refine (lvTree_yes ⟨na, nc, ns⟩ ⟨ka, kc, ks⟩ w8 nA.out kA.out (nE.out.trans (HL.out.trans kE.out.symm))).mono ?_
          rintro e w9 ⟨rfl, b9⟩
          first
            | replace B := Lib.hid (Loc.At.belowAll B.out (b9))
            | replace B := Lib.hid (nextB B.out (b9))
            | replace B := Lib.hid (Boxed.keep B.out (b9))
            | replace B := Lib.hid (Dat.belowAll B.out (b9))
            | replace B := Lib.hid (Fr.belowAll B.out (b9))
            | replace B := Lib.hid (Own.belowAll B.out (b9))
            | replace B := Lib.hid (Grows.next B.out (b9))
          clear b9
          go_wp2_with fail
          go_ret
          exact ⟨rfl, B.out⟩
end Go.Proofs.YtdidkfadiaafiaaGreatDoor
