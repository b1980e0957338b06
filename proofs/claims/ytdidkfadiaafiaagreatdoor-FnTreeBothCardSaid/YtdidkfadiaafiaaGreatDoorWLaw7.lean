/- The walk of FnTreeBoth. -/
import Derived.Test.YtdidkfadiaafiaaGreatDoorMergeKit
namespace Go.Proofs.YtdidkfadiaafiaaGreatDoor
open Go Go.RowKit

set_option maxRecDepth 100000 in
set_option maxHeartbeats 4000000 in
theorem treeBoth_walk (x : Loc UInt8) (w : World) (hx : x.At w) :
    Calls Tryz.prog 7 #[x.val] w fun e w' => e = .returned (.bool true) ∧ Below w.heap.size w w' := by
  have h1 := hx.lenMax
  have HX0 := Lib.hid hx
  clear hx
  by_cases hbig : (1048576 : Int) < (x.xs.length : Int)
  · obtain ⟨xa, xc, xs⟩ := x
    simp only [Loc.val] at hbig ⊢
    go_enter Tryz.func7, Tryz.ntmps7
    go_wp2_with fail
    go_ret
    exact ⟨rfl, Below.refl _ _⟩
  have hc := Lib.hid (drawTreeMerge_any x w HX0.out)
  obtain ⟨ua, uc, us⟩ := x
  simp only [Loc.val] at hbig hc ⊢
  go_enter Tryz.func7, Tryz.ntmps7
  go_wp2_with fail
  refine hc.out.mono ?_
  rintro e w1 ⟨⟨fa, fc, fs⟩, ⟨ba, bc, bs⟩, rfl, -, -, hA, hBt, b1⟩
  have B := Lib.hid b1
  have AA := Lib.hid hA
  have AB := Lib.hid hBt
  obtain ⟨T, hT⟩ : ∃ T, fs.map LFile.er = T := ⟨_, rfl⟩
  obtain ⟨S, hS⟩ : ∃ S, bs.map LFile.er = S := ⟨_, rfl⟩
  have HTE := Lib.hid hT
  have HSE := Lib.hid hS
  obtain ⟨⟨X, ok⟩, hP⟩ : ∃ P, mergeTZ T S = P := ⟨_, rfl⟩
  have HP := Lib.hid hP
  clear hc hA hBt b1 hP hT hS
  simp only [Loc.val]
  go_wp2_with fail
  refine (sTreeMerge_any ⟨fa, fc, fs⟩ ⟨ba, bc, bs⟩ w1 AA.out AB.out).mono ?_
  rw [HTE.out, HSE.out, HP.out]
  rintro e w2 ⟨⟨va, vc, vs⟩, rfl, hv, hvA, b2⟩
  have HVE := Lib.hid hv
  have AV := Lib.hid hvA
  first
    | replace B := Lib.hid (Loc.At.belowAll B.out (b2))
    | replace B := Lib.hid (nextB B.out (b2))
    | replace B := Lib.hid (Boxed.keep B.out (b2))
    | replace B := Lib.hid (Dat.belowAll B.out (b2))
    | replace B := Lib.hid (Fr.belowAll B.out (b2))
    | replace B := Lib.hid (Own.belowAll B.out (b2))
    | replace B := Lib.hid (Grows.next B.out (b2))
  first
    | replace AA := Lib.hid (Loc.At.belowAll AA.out (b2))
    | replace AA := Lib.hid (nextB AA.out (b2))
    | replace AA := Lib.hid (Boxed.keep AA.out (b2))
    | replace AA := Lib.hid (Dat.belowAll AA.out (b2))
    | replace AA := Lib.hid (Fr.belowAll AA.out (b2))
    | replace AA := Lib.hid (Own.belowAll AA.out (b2))
    | replace AA := Lib.hid (Grows.next AA.out (b2))
  first
    | replace AB := Lib.hid (Loc.At.belowAll AB.out (b2))
    | replace AB := Lib.hid (nextB AB.out (b2))
    | replace AB := Lib.hid (Boxed.keep AB.out (b2))
    | replace AB := Lib.hid (Dat.belowAll AB.out (b2))
    | replace AB := Lib.hid (Fr.belowAll AB.out (b2))
    | replace AB := Lib.hid (Own.belowAll AB.out (b2))
    | replace AB := Lib.hid (Grows.next AB.out (b2))
  clear hv hvA b2
  simp only [Loc.val]
  go_wp2_with fail
  refine (iTreeMerge_any ⟨fa, fc, fs⟩ ⟨ba, bc, bs⟩ w2 AA.out AB.out).mono ?_
  rw [HTE.out, HSE.out, HP.out]
  rintro e w3 ⟨⟨xa, xc, xs⟩, rfl, hx, hxA, -, b3⟩
  have HXE := Lib.hid (show xs.map LFile.er = X from hx)
  have AX := Lib.hid hxA
  first
    | replace B := Lib.hid (Loc.At.belowAll B.out (b3))
    | replace B := Lib.hid (nextB B.out (b3))
    | replace B := Lib.hid (Boxed.keep B.out (b3))
    | replace B := Lib.hid (Dat.belowAll B.out (b3))
    | replace B := Lib.hid (Fr.belowAll B.out (b3))
    | replace B := Lib.hid (Own.belowAll B.out (b3))
    | replace B := Lib.hid (Grows.next B.out (b3))
  first
    | replace AA := Lib.hid (Loc.At.belowAll AA.out (b3))
    | replace AA := Lib.hid (nextB AA.out (b3))
    | replace AA := Lib.hid (Boxed.keep AA.out (b3))
    | replace AA := Lib.hid (Dat.belowAll AA.out (b3))
    | replace AA := Lib.hid (Fr.belowAll AA.out (b3))
    | replace AA := Lib.hid (Own.belowAll AA.out (b3))
    | replace AA := Lib.hid (Grows.next AA.out (b3))
  first
    | replace AB := Lib.hid (Loc.At.belowAll AB.out (b3))
    | replace AB := Lib.hid (nextB AB.out (b3))
    | replace AB := Lib.hid (Boxed.keep AB.out (b3))
    | replace AB := Lib.hid (Dat.belowAll AB.out (b3))
    | replace AB := Lib.hid (Fr.belowAll AB.out (b3))
    | replace AB := Lib.hid (Own.belowAll AB.out (b3))
    | replace AB := Lib.hid (Grows.next AB.out (b3))
  first
    | replace AV := Lib.hid (Loc.At.belowAll AV.out (b3))
    | replace AV := Lib.hid (nextB AV.out (b3))
    | replace AV := Lib.hid (Boxed.keep AV.out (b3))
    | replace AV := Lib.hid (Dat.belowAll AV.out (b3))
    | replace AV := Lib.hid (Fr.belowAll AV.out (b3))
    | replace AV := Lib.hid (Own.belowAll AV.out (b3))
    | replace AV := Lib.hid (Grows.next AV.out (b3))
  clear hx hxA b3
  have hbb : (ok != ok) = false := by simp
  have hbe : (ok == ok) = true := by simp
  have HXV : Hid ((⟨xa, xc, xs⟩ : Loc LFile).xs.map LFile.er = (⟨va, vc, vs⟩ : Loc LFile).xs.map LFile.er) := Lib.hid (HXE.out.trans HVE.out.symm)
  simp only [Loc.val]
  go_wp2_with fail
  refine (lvTree_yes ⟨xa, xc, xs⟩ ⟨va, vc, vs⟩ w3 AX.out AV.out HXV.out).mono ?_
  rintro e w4 ⟨rfl, b4⟩
  first
    | replace B := Lib.hid (Loc.At.belowAll B.out (b4))
    | replace B := Lib.hid (nextB B.out (b4))
    | replace B := Lib.hid (Boxed.keep B.out (b4))
    | replace B := Lib.hid (Dat.belowAll B.out (b4))
    | replace B := Lib.hid (Fr.belowAll B.out (b4))
    | replace B := Lib.hid (Own.belowAll B.out (b4))
    | replace B := Lib.hid (Grows.next B.out (b4))
  first
    | replace AA := Lib.hid (Loc.At.belowAll AA.out (b4))
    | replace AA := Lib.hid (nextB AA.out (b4))
    | replace AA := Lib.hid (Boxed.keep AA.out (b4))
    | replace AA := Lib.hid (Dat.belowAll AA.out (b4))
    | replace AA := Lib.hid (Fr.belowAll AA.out (b4))
    | replace AA := Lib.hid (Own.belowAll AA.out (b4))
    | replace AA := Lib.hid (Grows.next AA.out (b4))
  first
    | replace AB := Lib.hid (Loc.At.belowAll AB.out (b4))
    | replace AB := Lib.hid (nextB AB.out (b4))
    | replace AB := Lib.hid (Boxed.keep AB.out (b4))
    | replace AB := Lib.hid (Dat.belowAll AB.out (b4))
    | replace AB := Lib.hid (Fr.belowAll AB.out (b4))
    | replace AB := Lib.hid (Own.belowAll AB.out (b4))
    | replace AB := Lib.hid (Grows.next AB.out (b4))
  first
    | replace AV := Lib.hid (Loc.At.belowAll AV.out (b4))
    | replace AV := Lib.hid (nextB AV.out (b4))
    | replace AV := Lib.hid (Boxed.keep AV.out (b4))
    | replace AV := Lib.hid (Dat.belowAll AV.out (b4))
    | replace AV := Lib.hid (Fr.belowAll AV.out (b4))
    | replace AV := Lib.hid (Own.belowAll AV.out (b4))
    | replace AV := Lib.hid (Grows.next AV.out (b4))
  first
    | replace AX := Lib.hid (Loc.At.belowAll AX.out (b4))
    | replace AX := Lib.hid (nextB AX.out (b4))
    | replace AX := Lib.hid (Boxed.keep AX.out (b4))
    | replace AX := Lib.hid (Dat.belowAll AX.out (b4))
    | replace AX := Lib.hid (Fr.belowAll AX.out (b4))
    | replace AX := Lib.hid (Own.belowAll AX.out (b4))
    | replace AX := Lib.hid (Grows.next AX.out (b4))
  clear b4
  cases ok with
  | false =>
    go_wp2_with fail
    refine (lvTree_yes ⟨xa, xc, xs⟩ ⟨va, vc, vs⟩ w4 AX.out AV.out HXV.out).mono ?_
    rintro e w9 ⟨rfl, b9⟩
    first
      | replace B := Lib.hid (Loc.At.belowAll B.out (b9))
      | replace B := Lib.hid (nextB B.out (b9))
      | replace B := Lib.hid (Boxed.keep B.out (b9))
      | replace B := Lib.hid (Dat.belowAll B.out (b9))
      | replace B := Lib.hid (Fr.belowAll B.out (b9))
      | replace B := Lib.hid (Own.belowAll B.out (b9))
      | replace B := Lib.hid (Grows.next B.out (b9))
    clear b9
    go_wp2_with fail
    go_ret
    exact ⟨rfl, B.out⟩
  | true =>
    have HB := Lib.hid (both_law HP.out)
    have EA : Hid ((⟨fa, fc, fs⟩ : Loc LFile).xs.map LFile.er = T) := Lib.hid HTE.out
    have EB : Hid ((⟨ba, bc, bs⟩ : Loc LFile).xs.map LFile.er = S) := Lib.hid HSE.out
    have EX : Hid ((⟨xa, xc, xs⟩ : Loc LFile).xs.map LFile.er = X) := Lib.hid HXE.out
    go_wp2_with fail
    refine (iTreeMerge_any ⟨ba, bc, bs⟩ ⟨fa, fc, fs⟩ w4 AB.out AA.out).mono ?_
    rw [EB.out, EA.out, HB.out.1]
    rintro e w5 ⟨⟨ka, kc, ks⟩, rfl, hm8, hmA, -, b8⟩
    have kE := Lib.hid hm8
    have kA := Lib.hid hmA
    clear hm8 hmA
    simp only [Loc.val]
    first
      | replace B := Lib.hid (Loc.At.belowAll B.out (b8))
      | replace B := Lib.hid (nextB B.out (b8))
      | replace B := Lib.hid (Boxed.keep B.out (b8))
      | replace B := Lib.hid (Dat.belowAll B.out (b8))
      | replace B := Lib.hid (Fr.belowAll B.out (b8))
      | replace B := Lib.hid (Own.belowAll B.out (b8))
      | replace B := Lib.hid (Grows.next B.out (b8))
    first
      | replace AA := Lib.hid (Loc.At.belowAll AA.out (b8))
      | replace AA := Lib.hid (nextB AA.out (b8))
      | replace AA := Lib.hid (Boxed.keep AA.out (b8))
      | replace AA := Lib.hid (Dat.belowAll AA.out (b8))
      | replace AA := Lib.hid (Fr.belowAll AA.out (b8))
      | replace AA := Lib.hid (Own.belowAll AA.out (b8))
      | replace AA := Lib.hid (Grows.next AA.out (b8))
    first
      | replace AX := Lib.hid (Loc.At.belowAll AX.out (b8))
      | replace AX := Lib.hid (nextB AX.out (b8))
      | replace AX := Lib.hid (Boxed.keep AX.out (b8))
      | replace AX := Lib.hid (Dat.belowAll AX.out (b8))
      | replace AX := Lib.hid (Fr.belowAll AX.out (b8))
      | replace AX := Lib.hid (Own.belowAll AX.out (b8))
      | replace AX := Lib.hid (Grows.next AX.out (b8))
    clear b8
    go_wp2_with fail
    refine (iTreeMerge_any ⟨fa, fc, fs⟩ ⟨fa, fc, fs⟩ w5 AA.out AA.out).mono ?_
    rw [EA.out, HB.out.2.1]
    rintro e w6 ⟨⟨oa, oc, os⟩, rfl, hm8, hmA, -, b8⟩
    have oE := Lib.hid hm8
    have oA := Lib.hid hmA
    clear hm8 hmA
    simp only [Loc.val]
    first
      | replace B := Lib.hid (Loc.At.belowAll B.out (b8))
      | replace B := Lib.hid (nextB B.out (b8))
      | replace B := Lib.hid (Boxed.keep B.out (b8))
      | replace B := Lib.hid (Dat.belowAll B.out (b8))
      | replace B := Lib.hid (Fr.belowAll B.out (b8))
      | replace B := Lib.hid (Own.belowAll B.out (b8))
      | replace B := Lib.hid (Grows.next B.out (b8))
    first
      | replace AA := Lib.hid (Loc.At.belowAll AA.out (b8))
      | replace AA := Lib.hid (nextB AA.out (b8))
      | replace AA := Lib.hid (Boxed.keep AA.out (b8))
      | replace AA := Lib.hid (Dat.belowAll AA.out (b8))
      | replace AA := Lib.hid (Fr.belowAll AA.out (b8))
      | replace AA := Lib.hid (Own.belowAll AA.out (b8))
      | replace AA := Lib.hid (Grows.next AA.out (b8))
    first
      | replace AX := Lib.hid (Loc.At.belowAll AX.out (b8))
      | replace AX := Lib.hid (nextB AX.out (b8))
      | replace AX := Lib.hid (Boxed.keep AX.out (b8))
      | replace AX := Lib.hid (Dat.belowAll AX.out (b8))
      | replace AX := Lib.hid (Fr.belowAll AX.out (b8))
      | replace AX := Lib.hid (Own.belowAll AX.out (b8))
      | replace AX := Lib.hid (Grows.next AX.out (b8))
    first
      | replace kA := Lib.hid (Loc.At.belowAll kA.out (b8))
      | replace kA := Lib.hid (nextB kA.out (b8))
      | replace kA := Lib.hid (Boxed.keep kA.out (b8))
      | replace kA := Lib.hid (Dat.belowAll kA.out (b8))
      | replace kA := Lib.hid (Fr.belowAll kA.out (b8))
      | replace kA := Lib.hid (Own.belowAll kA.out (b8))
      | replace kA := Lib.hid (Grows.next kA.out (b8))
    clear b8
    have EN : Hid ((⟨none, 0, []⟩ : Loc LFile).xs.map LFile.er = []) := Lib.hid rfl
    go_wp2_with fail
    refine (iTreeMerge_any ⟨fa, fc, fs⟩ ⟨none, 0, []⟩ w6 AA.out (nil_At _)).mono ?_
    rw [EA.out, EN.out, HB.out.2.2.1]
    rintro e w7 ⟨⟨na, nc, ns⟩, rfl, hm8, hmA, -, b8⟩
    have nE := Lib.hid hm8
    have nA := Lib.hid hmA
    clear hm8 hmA
    simp only [Loc.val]
    first
      | replace B := Lib.hid (Loc.At.belowAll B.out (b8))
      | replace B := Lib.hid (nextB B.out (b8))
      | replace B := Lib.hid (Boxed.keep B.out (b8))
      | replace B := Lib.hid (Dat.belowAll B.out (b8))
      | replace B := Lib.hid (Fr.belowAll B.out (b8))
      | replace B := Lib.hid (Own.belowAll B.out (b8))
      | replace B := Lib.hid (Grows.next B.out (b8))
    first
      | replace AA := Lib.hid (Loc.At.belowAll AA.out (b8))
      | replace AA := Lib.hid (nextB AA.out (b8))
      | replace AA := Lib.hid (Boxed.keep AA.out (b8))
      | replace AA := Lib.hid (Dat.belowAll AA.out (b8))
      | replace AA := Lib.hid (Fr.belowAll AA.out (b8))
      | replace AA := Lib.hid (Own.belowAll AA.out (b8))
      | replace AA := Lib.hid (Grows.next AA.out (b8))
    first
      | replace AX := Lib.hid (Loc.At.belowAll AX.out (b8))
      | replace AX := Lib.hid (nextB AX.out (b8))
      | replace AX := Lib.hid (Boxed.keep AX.out (b8))
      | replace AX := Lib.hid (Dat.belowAll AX.out (b8))
      | replace AX := Lib.hid (Fr.belowAll AX.out (b8))
      | replace AX := Lib.hid (Own.belowAll AX.out (b8))
      | replace AX := Lib.hid (Grows.next AX.out (b8))
    first
      | replace kA := Lib.hid (Loc.At.belowAll kA.out (b8))
      | replace kA := Lib.hid (nextB kA.out (b8))
      | replace kA := Lib.hid (Boxed.keep kA.out (b8))
      | replace kA := Lib.hid (Dat.belowAll kA.out (b8))
      | replace kA := Lib.hid (Fr.belowAll kA.out (b8))
      | replace kA := Lib.hid (Own.belowAll kA.out (b8))
      | replace kA := Lib.hid (Grows.next kA.out (b8))
    first
      | replace oA := Lib.hid (Loc.At.belowAll oA.out (b8))
      | replace oA := Lib.hid (nextB oA.out (b8))
      | replace oA := Lib.hid (Boxed.keep oA.out (b8))
      | replace oA := Lib.hid (Dat.belowAll oA.out (b8))
      | replace oA := Lib.hid (Fr.belowAll oA.out (b8))
      | replace oA := Lib.hid (Own.belowAll oA.out (b8))
      | replace oA := Lib.hid (Grows.next oA.out (b8))
    clear b8
    go_wp2_with fail
    refine (iTreeMerge_any ⟨xa, xc, xs⟩ ⟨fa, fc, fs⟩ w7 AX.out AA.out).mono ?_
    rw [EX.out, EA.out, HB.out.2.2.2]
    rintro e w8 ⟨⟨ga, gc, gs⟩, rfl, hm8, hmA, -, b8⟩
    have gE := Lib.hid hm8
    have gA := Lib.hid hmA
    clear hm8 hmA
    simp only [Loc.val]
    first
      | replace B := Lib.hid (Loc.At.belowAll B.out (b8))
      | replace B := Lib.hid (nextB B.out (b8))
      | replace B := Lib.hid (Boxed.keep B.out (b8))
      | replace B := Lib.hid (Dat.belowAll B.out (b8))
      | replace B := Lib.hid (Fr.belowAll B.out (b8))
      | replace B := Lib.hid (Own.belowAll B.out (b8))
      | replace B := Lib.hid (Grows.next B.out (b8))
    first
      | replace AA := Lib.hid (Loc.At.belowAll AA.out (b8))
      | replace AA := Lib.hid (nextB AA.out (b8))
      | replace AA := Lib.hid (Boxed.keep AA.out (b8))
      | replace AA := Lib.hid (Dat.belowAll AA.out (b8))
      | replace AA := Lib.hid (Fr.belowAll AA.out (b8))
      | replace AA := Lib.hid (Own.belowAll AA.out (b8))
      | replace AA := Lib.hid (Grows.next AA.out (b8))
    first
      | replace AX := Lib.hid (Loc.At.belowAll AX.out (b8))
      | replace AX := Lib.hid (nextB AX.out (b8))
      | replace AX := Lib.hid (Boxed.keep AX.out (b8))
      | replace AX := Lib.hid (Dat.belowAll AX.out (b8))
      | replace AX := Lib.hid (Fr.belowAll AX.out (b8))
      | replace AX := Lib.hid (Own.belowAll AX.out (b8))
      | replace AX := Lib.hid (Grows.next AX.out (b8))
    first
      | replace kA := Lib.hid (Loc.At.belowAll kA.out (b8))
      | replace kA := Lib.hid (nextB kA.out (b8))
      | replace kA := Lib.hid (Boxed.keep kA.out (b8))
      | replace kA := Lib.hid (Dat.belowAll kA.out (b8))
      | replace kA := Lib.hid (Fr.belowAll kA.out (b8))
      | replace kA := Lib.hid (Own.belowAll kA.out (b8))
      | replace kA := Lib.hid (Grows.next kA.out (b8))
    first
      | replace oA := Lib.hid (Loc.At.belowAll oA.out (b8))
      | replace oA := Lib.hid (nextB oA.out (b8))
      | replace oA := Lib.hid (Boxed.keep oA.out (b8))
      | replace oA := Lib.hid (Dat.belowAll oA.out (b8))
      | replace oA := Lib.hid (Fr.belowAll oA.out (b8))
      | replace oA := Lib.hid (Own.belowAll oA.out (b8))
      | replace oA := Lib.hid (Grows.next oA.out (b8))
    first
      | replace nA := Lib.hid (Loc.At.belowAll nA.out (b8))
      | replace nA := Lib.hid (nextB nA.out (b8))
      | replace nA := Lib.hid (Boxed.keep nA.out (b8))
      | replace nA := Lib.hid (Dat.belowAll nA.out (b8))
      | replace nA := Lib.hid (Fr.belowAll nA.out (b8))
      | replace nA := Lib.hid (Own.belowAll nA.out (b8))
      | replace nA := Lib.hid (Grows.next nA.out (b8))
    clear b8
    go_wp2_with fail
    refine (lvTree_yes ⟨ka, kc, ks⟩ ⟨xa, xc, xs⟩ w8 kA.out AX.out (kE.out.trans EX.out.symm)).mono ?_
    rintro e w9 ⟨rfl, b8⟩
    first
      | replace B := Lib.hid (Loc.At.belowAll B.out (b8))
      | replace B := Lib.hid (nextB B.out (b8))
      | replace B := Lib.hid (Boxed.keep B.out (b8))
      | replace B := Lib.hid (Dat.belowAll B.out (b8))
      | replace B := Lib.hid (Fr.belowAll B.out (b8))
      | replace B := Lib.hid (Own.belowAll B.out (b8))
      | replace B := Lib.hid (Grows.next B.out (b8))
    first
      | replace AA := Lib.hid (Loc.At.belowAll AA.out (b8))
      | replace AA := Lib.hid (nextB AA.out (b8))
      | replace AA := Lib.hid (Boxed.keep AA.out (b8))
      | replace AA := Lib.hid (Dat.belowAll AA.out (b8))
      | replace AA := Lib.hid (Fr.belowAll AA.out (b8))
      | replace AA := Lib.hid (Own.belowAll AA.out (b8))
      | replace AA := Lib.hid (Grows.next AA.out (b8))
    first
      | replace AX := Lib.hid (Loc.At.belowAll AX.out (b8))
      | replace AX := Lib.hid (nextB AX.out (b8))
      | replace AX := Lib.hid (Boxed.keep AX.out (b8))
      | replace AX := Lib.hid (Dat.belowAll AX.out (b8))
      | replace AX := Lib.hid (Fr.belowAll AX.out (b8))
      | replace AX := Lib.hid (Own.belowAll AX.out (b8))
      | replace AX := Lib.hid (Grows.next AX.out (b8))
    first
      | replace oA := Lib.hid (Loc.At.belowAll oA.out (b8))
      | replace oA := Lib.hid (nextB oA.out (b8))
      | replace oA := Lib.hid (Boxed.keep oA.out (b8))
      | replace oA := Lib.hid (Dat.belowAll oA.out (b8))
      | replace oA := Lib.hid (Fr.belowAll oA.out (b8))
      | replace oA := Lib.hid (Own.belowAll oA.out (b8))
      | replace oA := Lib.hid (Grows.next oA.out (b8))
    first
      | replace nA := Lib.hid (Loc.At.belowAll nA.out (b8))
      | replace nA := Lib.hid (nextB nA.out (b8))
      | replace nA := Lib.hid (Boxed.keep nA.out (b8))
      | replace nA := Lib.hid (Dat.belowAll nA.out (b8))
      | replace nA := Lib.hid (Fr.belowAll nA.out (b8))
      | replace nA := Lib.hid (Own.belowAll nA.out (b8))
      | replace nA := Lib.hid (Grows.next nA.out (b8))
    first
      | replace gA := Lib.hid (Loc.At.belowAll gA.out (b8))
      | replace gA := Lib.hid (nextB gA.out (b8))
      | replace gA := Lib.hid (Boxed.keep gA.out (b8))
      | replace gA := Lib.hid (Dat.belowAll gA.out (b8))
      | replace gA := Lib.hid (Fr.belowAll gA.out (b8))
      | replace gA := Lib.hid (Own.belowAll gA.out (b8))
      | replace gA := Lib.hid (Grows.next gA.out (b8))
    clear b8
    go_wp2_with fail
    refine (lvTree_yes ⟨oa, oc, os⟩ ⟨fa, fc, fs⟩ w9 oA.out AA.out (oE.out.trans EA.out.symm)).mono ?_
    rintro e w10 ⟨rfl, b8⟩
    first
      | replace B := Lib.hid (Loc.At.belowAll B.out (b8))
      | replace B := Lib.hid (nextB B.out (b8))
      | replace B := Lib.hid (Boxed.keep B.out (b8))
      | replace B := Lib.hid (Dat.belowAll B.out (b8))
      | replace B := Lib.hid (Fr.belowAll B.out (b8))
      | replace B := Lib.hid (Own.belowAll B.out (b8))
      | replace B := Lib.hid (Grows.next B.out (b8))
    first
      | replace AA := Lib.hid (Loc.At.belowAll AA.out (b8))
      | replace AA := Lib.hid (nextB AA.out (b8))
      | replace AA := Lib.hid (Boxed.keep AA.out (b8))
      | replace AA := Lib.hid (Dat.belowAll AA.out (b8))
      | replace AA := Lib.hid (Fr.belowAll AA.out (b8))
      | replace AA := Lib.hid (Own.belowAll AA.out (b8))
      | replace AA := Lib.hid (Grows.next AA.out (b8))
    first
      | replace AX := Lib.hid (Loc.At.belowAll AX.out (b8))
      | replace AX := Lib.hid (nextB AX.out (b8))
      | replace AX := Lib.hid (Boxed.keep AX.out (b8))
      | replace AX := Lib.hid (Dat.belowAll AX.out (b8))
      | replace AX := Lib.hid (Fr.belowAll AX.out (b8))
      | replace AX := Lib.hid (Own.belowAll AX.out (b8))
      | replace AX := Lib.hid (Grows.next AX.out (b8))
    first
      | replace nA := Lib.hid (Loc.At.belowAll nA.out (b8))
      | replace nA := Lib.hid (nextB nA.out (b8))
      | replace nA := Lib.hid (Boxed.keep nA.out (b8))
      | replace nA := Lib.hid (Dat.belowAll nA.out (b8))
      | replace nA := Lib.hid (Fr.belowAll nA.out (b8))
      | replace nA := Lib.hid (Own.belowAll nA.out (b8))
      | replace nA := Lib.hid (Grows.next nA.out (b8))
    first
      | replace gA := Lib.hid (Loc.At.belowAll gA.out (b8))
      | replace gA := Lib.hid (nextB gA.out (b8))
      | replace gA := Lib.hid (Boxed.keep gA.out (b8))
      | replace gA := Lib.hid (Dat.belowAll gA.out (b8))
      | replace gA := Lib.hid (Fr.belowAll gA.out (b8))
      | replace gA := Lib.hid (Own.belowAll gA.out (b8))
      | replace gA := Lib.hid (Grows.next gA.out (b8))
    clear b8
    go_wp2_with fail
    refine (lvTree_yes ⟨na, nc, ns⟩ ⟨fa, fc, fs⟩ w10 nA.out AA.out (nE.out.trans EA.out.symm)).mono ?_
    rintro e w11 ⟨rfl, b8⟩
    first
      | replace B := Lib.hid (Loc.At.belowAll B.out (b8))
      | replace B := Lib.hid (nextB B.out (b8))
      | replace B := Lib.hid (Boxed.keep B.out (b8))
      | replace B := Lib.hid (Dat.belowAll B.out (b8))
      | replace B := Lib.hid (Fr.belowAll B.out (b8))
      | replace B := Lib.hid (Own.belowAll B.out (b8))
      | replace B := Lib.hid (Grows.next B.out (b8))
    first
      | replace AX := Lib.hid (Loc.At.belowAll AX.out (b8))
      | replace AX := Lib.hid (nextB AX.out (b8))
      | replace AX := Lib.hid (Boxed.keep AX.out (b8))
      | replace AX := Lib.hid (Dat.belowAll AX.out (b8))
      | replace AX := Lib.hid (Fr.belowAll AX.out (b8))
      | replace AX := Lib.hid (Own.belowAll AX.out (b8))
      | replace AX := Lib.hid (Grows.next AX.out (b8))
    first
      | replace gA := Lib.hid (Loc.At.belowAll gA.out (b8))
      | replace gA := Lib.hid (nextB gA.out (b8))
      | replace gA := Lib.hid (Boxed.keep gA.out (b8))
      | replace gA := Lib.hid (Dat.belowAll gA.out (b8))
      | replace gA := Lib.hid (Fr.belowAll gA.out (b8))
      | replace gA := Lib.hid (Own.belowAll gA.out (b8))
      | replace gA := Lib.hid (Grows.next gA.out (b8))
    clear b8
    go_wp2_with fail
    refine (lvTree_yes ⟨ga, gc, gs⟩ ⟨xa, xc, xs⟩ w11 gA.out AX.out (gE.out.trans EX.out.symm)).mono ?_
    rintro e w12 ⟨rfl, b8⟩
    first
      | replace B := Lib.hid (Loc.At.belowAll B.out (b8))
      | replace B := Lib.hid (nextB B.out (b8))
      | replace B := Lib.hid (Boxed.keep B.out (b8))
      | replace B := Lib.hid (Dat.belowAll B.out (b8))
      | replace B := Lib.hid (Fr.belowAll B.out (b8))
      | replace B := Lib.hid (Own.belowAll B.out (b8))
      | replace B := Lib.hid (Grows.next B.out (b8))
    clear b8
    go_wp2_with fail
    go_ret
    exact ⟨rfl, B.out⟩
end Go.Proofs.YtdidkfadiaafiaaGreatDoor
