/- The walk of FnExactTreeMerge over located arguments. -/
import Derived.Test.YtdidkfadiaafiaaGreatDoorWrLaw
import Derived.Test.YtdidkfadiaafiaaGreatDoorMergeT
namespace Go.Proofs.YtdidkfadiaafiaaGreatDoor
open Go Go.RowKit

theorem mergeTZ_len (a b : List File) : lenF (mergeTZ a b).1 ≤ 400 := by
  unfold mergeTZ
  split
  · rename_i k
    simp only [Bool.and_eq_true] at k
    exact lenF_ok (TreeOK.of k.2)
  · simp [lenF]

set_option maxRecDepth 100000 in
set_option maxHeartbeats 4000000 in
theorem exactTreeMerge_walk (x y : Loc LFile) (w : World) (hx : x.At w) (hy : y.At w) :
    Calls Tryz.prog 4 #[x.val, y.val] w fun e w' => e = .returned (.bool true) ∧ Below w.heap.size w w' := by
  obtain ⟨⟨Z, ok⟩, hb⟩ : ∃ P, mergeTZ (x.xs.map LFile.er) (y.xs.map LFile.er) = P := ⟨_, rfl⟩
  have HX := Lib.hid hx
  have HY := Lib.hid hy
  have HZ := Lib.hid hb
  have LX0 := Lib.hid (Loc.lt_of_At hx)
  have LY0 := Lib.hid (Loc.lt_of_At hy)
  have HZL : Hid (lenF Z ≤ 400) := Lib.hid (by have := mergeTZ_len (x.xs.map LFile.er) (y.xs.map LFile.er); rw [hb] at this; exact this)
  clear hx hy hb
  go_enter Tryz.func4, Tryz.ntmps4
  go_wp2_with fail
  refine (szFileS_any x 1048576 w HX.out (by decide)).mono ?_
  rintro e w1 ⟨⟨r, rfl, hr⟩, b1⟩
  have B := Lib.hid b1
  first
    | replace HX := Lib.hid (Loc.At.belowAll HX.out (b1))
    | replace HX := Lib.hid (nextB HX.out (b1))
    | replace HX := Lib.hid (Boxed.keep HX.out (b1))
    | replace HX := Lib.hid (Dat.belowAll HX.out (b1))
    | replace HX := Lib.hid (Fr.belowAll HX.out (b1))
    | replace HX := Lib.hid (Own.belowAll HX.out (b1))
    | replace HX := Lib.hid (Grows.next HX.out (b1))
  first
    | replace HY := Lib.hid (Loc.At.belowAll HY.out (b1))
    | replace HY := Lib.hid (nextB HY.out (b1))
    | replace HY := Lib.hid (Boxed.keep HY.out (b1))
    | replace HY := Lib.hid (Dat.belowAll HY.out (b1))
    | replace HY := Lib.hid (Fr.belowAll HY.out (b1))
    | replace HY := Lib.hid (Own.belowAll HY.out (b1))
    | replace HY := Lib.hid (Grows.next HY.out (b1))
  have HR := Lib.hid hr
  clear hr b1
  by_cases hr0 : r < 0
  · go_wp2_with fail
    go_ret
    exact ⟨rfl, B.out⟩
  have HM : Hid (bulkFiles x.xs ≤ 1048576) := Lib.hid (by rcases HR.out with h | h <;> omega)
  have HRB : Hid (r ≤ 1048576) := Lib.hid (by rcases HR.out with h | h <;> omega)
  have HLX : Hid (lenF (x.xs.map LFile.er) ≤ 2097152) := Lib.hid (by have h := lenF_le x.xs; have h2 := HM.out; omega)
  go_wp2_with fail
  refine (szFileS_any y r w1 HY.out (by have := HRB.out; omega)).mono ?_
  rintro e w1' ⟨⟨r2, rfl, hr2⟩, b1'⟩
  first
    | replace B := Lib.hid (Loc.At.belowAll B.out (b1'))
    | replace B := Lib.hid (nextB B.out (b1'))
    | replace B := Lib.hid (Boxed.keep B.out (b1'))
    | replace B := Lib.hid (Dat.belowAll B.out (b1'))
    | replace B := Lib.hid (Fr.belowAll B.out (b1'))
    | replace B := Lib.hid (Own.belowAll B.out (b1'))
    | replace B := Lib.hid (Grows.next B.out (b1'))
  first
    | replace HX := Lib.hid (Loc.At.belowAll HX.out (b1'))
    | replace HX := Lib.hid (nextB HX.out (b1'))
    | replace HX := Lib.hid (Boxed.keep HX.out (b1'))
    | replace HX := Lib.hid (Dat.belowAll HX.out (b1'))
    | replace HX := Lib.hid (Fr.belowAll HX.out (b1'))
    | replace HX := Lib.hid (Own.belowAll HX.out (b1'))
    | replace HX := Lib.hid (Grows.next HX.out (b1'))
  first
    | replace HY := Lib.hid (Loc.At.belowAll HY.out (b1'))
    | replace HY := Lib.hid (nextB HY.out (b1'))
    | replace HY := Lib.hid (Boxed.keep HY.out (b1'))
    | replace HY := Lib.hid (Dat.belowAll HY.out (b1'))
    | replace HY := Lib.hid (Fr.belowAll HY.out (b1'))
    | replace HY := Lib.hid (Own.belowAll HY.out (b1'))
    | replace HY := Lib.hid (Grows.next HY.out (b1'))
  have HR2 := Lib.hid hr2
  clear hr2 b1'
  by_cases hr20 : r2 < 0
  · go_wp2_with fail
    go_ret
    exact ⟨rfl, B.out⟩
  have HMY : Hid (bulkFiles y.xs ≤ 1048576) := Lib.hid (by have := HRB.out; rcases HR2.out with h | h <;> omega)
  have HLY : Hid (lenF (y.xs.map LFile.er) ≤ 2097152) := Lib.hid (by have h := lenF_le y.xs; have h2 := HMY.out; omega)
  have S1 := Lib.hid B.out.size
  clear HR HR2
  -- the reference's answer
  go_wp2_with fail
  refine (toFileS_any x w1' HX.out HM.out).mono ?_
  rintro e w2 ⟨p, rfl, hp, hpA, -, b2⟩
  first
    | replace B := Lib.hid (Loc.At.belowAll B.out (b2))
    | replace B := Lib.hid (nextB B.out (b2))
    | replace B := Lib.hid (Boxed.keep B.out (b2))
    | replace B := Lib.hid (Dat.belowAll B.out (b2))
    | replace B := Lib.hid (Fr.belowAll B.out (b2))
    | replace B := Lib.hid (Own.belowAll B.out (b2))
    | replace B := Lib.hid (Grows.next B.out (b2))
  first
    | replace HX := Lib.hid (Loc.At.belowAll HX.out (b2))
    | replace HX := Lib.hid (nextB HX.out (b2))
    | replace HX := Lib.hid (Boxed.keep HX.out (b2))
    | replace HX := Lib.hid (Dat.belowAll HX.out (b2))
    | replace HX := Lib.hid (Fr.belowAll HX.out (b2))
    | replace HX := Lib.hid (Own.belowAll HX.out (b2))
    | replace HX := Lib.hid (Grows.next HX.out (b2))
  first
    | replace HY := Lib.hid (Loc.At.belowAll HY.out (b2))
    | replace HY := Lib.hid (nextB HY.out (b2))
    | replace HY := Lib.hid (Boxed.keep HY.out (b2))
    | replace HY := Lib.hid (Dat.belowAll HY.out (b2))
    | replace HY := Lib.hid (Fr.belowAll HY.out (b2))
    | replace HY := Lib.hid (Own.belowAll HY.out (b2))
    | replace HY := Lib.hid (Grows.next HY.out (b2))
  have HPE := Lib.hid (show p.xs.map LFile.er = x.xs.map LFile.er from hp)
  have AP := Lib.hid hpA
  clear b2 hp hpA
  go_wp2_with fail
  refine (toFileS_any y w2 HY.out HMY.out).mono ?_
  rintro e w2' ⟨q0, rfl, hp, hpA, -, b2⟩
  first
    | replace B := Lib.hid (Loc.At.belowAll B.out (b2))
    | replace B := Lib.hid (nextB B.out (b2))
    | replace B := Lib.hid (Boxed.keep B.out (b2))
    | replace B := Lib.hid (Dat.belowAll B.out (b2))
    | replace B := Lib.hid (Fr.belowAll B.out (b2))
    | replace B := Lib.hid (Own.belowAll B.out (b2))
    | replace B := Lib.hid (Grows.next B.out (b2))
  first
    | replace HX := Lib.hid (Loc.At.belowAll HX.out (b2))
    | replace HX := Lib.hid (nextB HX.out (b2))
    | replace HX := Lib.hid (Boxed.keep HX.out (b2))
    | replace HX := Lib.hid (Dat.belowAll HX.out (b2))
    | replace HX := Lib.hid (Fr.belowAll HX.out (b2))
    | replace HX := Lib.hid (Own.belowAll HX.out (b2))
    | replace HX := Lib.hid (Grows.next HX.out (b2))
  first
    | replace HY := Lib.hid (Loc.At.belowAll HY.out (b2))
    | replace HY := Lib.hid (nextB HY.out (b2))
    | replace HY := Lib.hid (Boxed.keep HY.out (b2))
    | replace HY := Lib.hid (Dat.belowAll HY.out (b2))
    | replace HY := Lib.hid (Fr.belowAll HY.out (b2))
    | replace HY := Lib.hid (Own.belowAll HY.out (b2))
    | replace HY := Lib.hid (Grows.next HY.out (b2))
  first
    | replace AP := Lib.hid (Loc.At.belowAll AP.out (b2))
    | replace AP := Lib.hid (nextB AP.out (b2))
    | replace AP := Lib.hid (Boxed.keep AP.out (b2))
    | replace AP := Lib.hid (Dat.belowAll AP.out (b2))
    | replace AP := Lib.hid (Fr.belowAll AP.out (b2))
    | replace AP := Lib.hid (Own.belowAll AP.out (b2))
    | replace AP := Lib.hid (Grows.next AP.out (b2))
  have HQE := Lib.hid (show q0.xs.map LFile.er = y.xs.map LFile.er from hp)
  have AQ := Lib.hid hpA
  clear b2 hp hpA
  go_wp2_with fail
  refine (sTreeMerge_any p q0 w2' AP.out AQ.out).mono ?_
  rw [HPE.out, HQE.out, HZ.out]
  rintro e w3 ⟨v, rfl, hv, hvA, b3⟩
  first
    | replace B := Lib.hid (Loc.At.belowAll B.out (b3))
    | replace B := Lib.hid (nextB B.out (b3))
    | replace B := Lib.hid (Boxed.keep B.out (b3))
    | replace B := Lib.hid (Dat.belowAll B.out (b3))
    | replace B := Lib.hid (Fr.belowAll B.out (b3))
    | replace B := Lib.hid (Own.belowAll B.out (b3))
    | replace B := Lib.hid (Grows.next B.out (b3))
  first
    | replace HX := Lib.hid (Loc.At.belowAll HX.out (b3))
    | replace HX := Lib.hid (nextB HX.out (b3))
    | replace HX := Lib.hid (Boxed.keep HX.out (b3))
    | replace HX := Lib.hid (Dat.belowAll HX.out (b3))
    | replace HX := Lib.hid (Fr.belowAll HX.out (b3))
    | replace HX := Lib.hid (Own.belowAll HX.out (b3))
    | replace HX := Lib.hid (Grows.next HX.out (b3))
  first
    | replace HY := Lib.hid (Loc.At.belowAll HY.out (b3))
    | replace HY := Lib.hid (nextB HY.out (b3))
    | replace HY := Lib.hid (Boxed.keep HY.out (b3))
    | replace HY := Lib.hid (Dat.belowAll HY.out (b3))
    | replace HY := Lib.hid (Fr.belowAll HY.out (b3))
    | replace HY := Lib.hid (Own.belowAll HY.out (b3))
    | replace HY := Lib.hid (Grows.next HY.out (b3))
  have HV := Lib.hid (show v.xs.map LFile.er = Z from hv)
  have AV := Lib.hid hvA
  clear b3 hv hvA AP AQ HPE HQE
  go_wp2_with fail
  refine (toFileS_any x w3 HX.out HM.out).mono ?_
  rintro e w4 ⟨z, rfl, hz, hzA, hzF, b4⟩
  have S3 := Lib.hid B.out.size
  have LV := Lib.hid (Loc.lt_of_At AV.out)
  have S34 := Lib.hid b4.size
  first
    | replace B := Lib.hid (Loc.At.belowAll B.out (b4))
    | replace B := Lib.hid (nextB B.out (b4))
    | replace B := Lib.hid (Boxed.keep B.out (b4))
    | replace B := Lib.hid (Dat.belowAll B.out (b4))
    | replace B := Lib.hid (Fr.belowAll B.out (b4))
    | replace B := Lib.hid (Own.belowAll B.out (b4))
    | replace B := Lib.hid (Grows.next B.out (b4))
  first
    | replace HX := Lib.hid (Loc.At.belowAll HX.out (b4))
    | replace HX := Lib.hid (nextB HX.out (b4))
    | replace HX := Lib.hid (Boxed.keep HX.out (b4))
    | replace HX := Lib.hid (Dat.belowAll HX.out (b4))
    | replace HX := Lib.hid (Fr.belowAll HX.out (b4))
    | replace HX := Lib.hid (Own.belowAll HX.out (b4))
    | replace HX := Lib.hid (Grows.next HX.out (b4))
  first
    | replace HY := Lib.hid (Loc.At.belowAll HY.out (b4))
    | replace HY := Lib.hid (nextB HY.out (b4))
    | replace HY := Lib.hid (Boxed.keep HY.out (b4))
    | replace HY := Lib.hid (Dat.belowAll HY.out (b4))
    | replace HY := Lib.hid (Fr.belowAll HY.out (b4))
    | replace HY := Lib.hid (Own.belowAll HY.out (b4))
    | replace HY := Lib.hid (Grows.next HY.out (b4))
  first
    | replace AV := Lib.hid (Loc.At.belowAll AV.out (b4))
    | replace AV := Lib.hid (nextB AV.out (b4))
    | replace AV := Lib.hid (Boxed.keep AV.out (b4))
    | replace AV := Lib.hid (Dat.belowAll AV.out (b4))
    | replace AV := Lib.hid (Fr.belowAll AV.out (b4))
    | replace AV := Lib.hid (Own.belowAll AV.out (b4))
    | replace AV := Lib.hid (Grows.next AV.out (b4))
  have HZE := Lib.hid (show z.xs.map LFile.er = x.xs.map LFile.er from hz)
  have AZ := Lib.hid hzA
  have FZ := Lib.hid hzF
  clear b4 hz hzA hzF
  go_wp2_with fail
  refine (toFileS_any y w4 HY.out HMY.out).mono ?_
  rintro e w4' ⟨t0, rfl, hz, hzA, hzF, b4⟩
  have LZ := Lib.hid FZ.out.lt
  have S4' := Lib.hid B.out.size
  first
    | replace B := Lib.hid (Loc.At.belowAll B.out (b4))
    | replace B := Lib.hid (nextB B.out (b4))
    | replace B := Lib.hid (Boxed.keep B.out (b4))
    | replace B := Lib.hid (Dat.belowAll B.out (b4))
    | replace B := Lib.hid (Fr.belowAll B.out (b4))
    | replace B := Lib.hid (Own.belowAll B.out (b4))
    | replace B := Lib.hid (Grows.next B.out (b4))
  first
    | replace HX := Lib.hid (Loc.At.belowAll HX.out (b4))
    | replace HX := Lib.hid (nextB HX.out (b4))
    | replace HX := Lib.hid (Boxed.keep HX.out (b4))
    | replace HX := Lib.hid (Dat.belowAll HX.out (b4))
    | replace HX := Lib.hid (Fr.belowAll HX.out (b4))
    | replace HX := Lib.hid (Own.belowAll HX.out (b4))
    | replace HX := Lib.hid (Grows.next HX.out (b4))
  first
    | replace HY := Lib.hid (Loc.At.belowAll HY.out (b4))
    | replace HY := Lib.hid (nextB HY.out (b4))
    | replace HY := Lib.hid (Boxed.keep HY.out (b4))
    | replace HY := Lib.hid (Dat.belowAll HY.out (b4))
    | replace HY := Lib.hid (Fr.belowAll HY.out (b4))
    | replace HY := Lib.hid (Own.belowAll HY.out (b4))
    | replace HY := Lib.hid (Grows.next HY.out (b4))
  first
    | replace AV := Lib.hid (Loc.At.belowAll AV.out (b4))
    | replace AV := Lib.hid (nextB AV.out (b4))
    | replace AV := Lib.hid (Boxed.keep AV.out (b4))
    | replace AV := Lib.hid (Dat.belowAll AV.out (b4))
    | replace AV := Lib.hid (Fr.belowAll AV.out (b4))
    | replace AV := Lib.hid (Own.belowAll AV.out (b4))
    | replace AV := Lib.hid (Grows.next AV.out (b4))
  first
    | replace AZ := Lib.hid (Loc.At.belowAll AZ.out (b4))
    | replace AZ := Lib.hid (nextB AZ.out (b4))
    | replace AZ := Lib.hid (Boxed.keep AZ.out (b4))
    | replace AZ := Lib.hid (Dat.belowAll AZ.out (b4))
    | replace AZ := Lib.hid (Fr.belowAll AZ.out (b4))
    | replace AZ := Lib.hid (Own.belowAll AZ.out (b4))
    | replace AZ := Lib.hid (Grows.next AZ.out (b4))
  first
    | replace FZ := Lib.hid (Loc.At.belowAll FZ.out (b4))
    | replace FZ := Lib.hid (nextB FZ.out (b4))
    | replace FZ := Lib.hid (Boxed.keep FZ.out (b4))
    | replace FZ := Lib.hid (Dat.belowAll FZ.out (b4))
    | replace FZ := Lib.hid (Fr.belowAll FZ.out (b4))
    | replace FZ := Lib.hid (Own.belowAll FZ.out (b4))
    | replace FZ := Lib.hid (Grows.next FZ.out (b4))
  have HTE := Lib.hid (show t0.xs.map LFile.er = y.xs.map LFile.er from hz)
  have AT := Lib.hid hzA
  have FT := Lib.hid hzF
  have S4S := Lib.hid b4.size
  clear b4 hz hzA hzF
  go_wp2_with fail
  refine (iTreeMerge_any z t0 w4' AZ.out AT.out).mono ?_
  rw [HZE.out, HTE.out, HZ.out]
  rintro e w5 ⟨g, rfl, hg, hgA, hgF, b5⟩
  have LT := Lib.hid FT.out.lt
  have S44 := Lib.hid (show w4.heap.size ≤ w4'.heap.size from S4S.out)
  have S4 := Lib.hid B.out.size
  first
    | replace B := Lib.hid (Loc.At.belowAll B.out (b5))
    | replace B := Lib.hid (nextB B.out (b5))
    | replace B := Lib.hid (Boxed.keep B.out (b5))
    | replace B := Lib.hid (Dat.belowAll B.out (b5))
    | replace B := Lib.hid (Fr.belowAll B.out (b5))
    | replace B := Lib.hid (Own.belowAll B.out (b5))
    | replace B := Lib.hid (Grows.next B.out (b5))
  first
    | replace HX := Lib.hid (Loc.At.belowAll HX.out (b5))
    | replace HX := Lib.hid (nextB HX.out (b5))
    | replace HX := Lib.hid (Boxed.keep HX.out (b5))
    | replace HX := Lib.hid (Dat.belowAll HX.out (b5))
    | replace HX := Lib.hid (Fr.belowAll HX.out (b5))
    | replace HX := Lib.hid (Own.belowAll HX.out (b5))
    | replace HX := Lib.hid (Grows.next HX.out (b5))
  first
    | replace HY := Lib.hid (Loc.At.belowAll HY.out (b5))
    | replace HY := Lib.hid (nextB HY.out (b5))
    | replace HY := Lib.hid (Boxed.keep HY.out (b5))
    | replace HY := Lib.hid (Dat.belowAll HY.out (b5))
    | replace HY := Lib.hid (Fr.belowAll HY.out (b5))
    | replace HY := Lib.hid (Own.belowAll HY.out (b5))
    | replace HY := Lib.hid (Grows.next HY.out (b5))
  first
    | replace AV := Lib.hid (Loc.At.belowAll AV.out (b5))
    | replace AV := Lib.hid (nextB AV.out (b5))
    | replace AV := Lib.hid (Boxed.keep AV.out (b5))
    | replace AV := Lib.hid (Dat.belowAll AV.out (b5))
    | replace AV := Lib.hid (Fr.belowAll AV.out (b5))
    | replace AV := Lib.hid (Own.belowAll AV.out (b5))
    | replace AV := Lib.hid (Grows.next AV.out (b5))
  first
    | replace AZ := Lib.hid (Loc.At.belowAll AZ.out (b5))
    | replace AZ := Lib.hid (nextB AZ.out (b5))
    | replace AZ := Lib.hid (Boxed.keep AZ.out (b5))
    | replace AZ := Lib.hid (Dat.belowAll AZ.out (b5))
    | replace AZ := Lib.hid (Fr.belowAll AZ.out (b5))
    | replace AZ := Lib.hid (Own.belowAll AZ.out (b5))
    | replace AZ := Lib.hid (Grows.next AZ.out (b5))
  first
    | replace FZ := Lib.hid (Loc.At.belowAll FZ.out (b5))
    | replace FZ := Lib.hid (nextB FZ.out (b5))
    | replace FZ := Lib.hid (Boxed.keep FZ.out (b5))
    | replace FZ := Lib.hid (Dat.belowAll FZ.out (b5))
    | replace FZ := Lib.hid (Fr.belowAll FZ.out (b5))
    | replace FZ := Lib.hid (Own.belowAll FZ.out (b5))
    | replace FZ := Lib.hid (Grows.next FZ.out (b5))
  first
    | replace AT := Lib.hid (Loc.At.belowAll AT.out (b5))
    | replace AT := Lib.hid (nextB AT.out (b5))
    | replace AT := Lib.hid (Boxed.keep AT.out (b5))
    | replace AT := Lib.hid (Dat.belowAll AT.out (b5))
    | replace AT := Lib.hid (Fr.belowAll AT.out (b5))
    | replace AT := Lib.hid (Own.belowAll AT.out (b5))
    | replace AT := Lib.hid (Grows.next AT.out (b5))
  first
    | replace FT := Lib.hid (Loc.At.belowAll FT.out (b5))
    | replace FT := Lib.hid (nextB FT.out (b5))
    | replace FT := Lib.hid (Boxed.keep FT.out (b5))
    | replace FT := Lib.hid (Dat.belowAll FT.out (b5))
    | replace FT := Lib.hid (Fr.belowAll FT.out (b5))
    | replace FT := Lib.hid (Own.belowAll FT.out (b5))
    | replace FT := Lib.hid (Grows.next FT.out (b5))
  have HG := Lib.hid (show g.xs.map LFile.er = Z from hg)
  have AG := Lib.hid hgA
  have FG := Lib.hid hgF
  clear b5 hg hgA hgF
  have hoo : (ok != ok) = false := by simp
  go_wp2_with fail
  refine (eqFileS_any g v w5 AG.out AV.out).mono ?_
  rintro e w6 ⟨⟨q, rfl, hq⟩, b6⟩
  obtain rfl : q = true := hq.2 (HG.out.trans HV.out.symm)
  first
    | replace B := Lib.hid (Loc.At.belowAll B.out (b6))
    | replace B := Lib.hid (nextB B.out (b6))
    | replace B := Lib.hid (Boxed.keep B.out (b6))
    | replace B := Lib.hid (Dat.belowAll B.out (b6))
    | replace B := Lib.hid (Fr.belowAll B.out (b6))
    | replace B := Lib.hid (Own.belowAll B.out (b6))
    | replace B := Lib.hid (Grows.next B.out (b6))
  first
    | replace HX := Lib.hid (Loc.At.belowAll HX.out (b6))
    | replace HX := Lib.hid (nextB HX.out (b6))
    | replace HX := Lib.hid (Boxed.keep HX.out (b6))
    | replace HX := Lib.hid (Dat.belowAll HX.out (b6))
    | replace HX := Lib.hid (Fr.belowAll HX.out (b6))
    | replace HX := Lib.hid (Own.belowAll HX.out (b6))
    | replace HX := Lib.hid (Grows.next HX.out (b6))
  first
    | replace HY := Lib.hid (Loc.At.belowAll HY.out (b6))
    | replace HY := Lib.hid (nextB HY.out (b6))
    | replace HY := Lib.hid (Boxed.keep HY.out (b6))
    | replace HY := Lib.hid (Dat.belowAll HY.out (b6))
    | replace HY := Lib.hid (Fr.belowAll HY.out (b6))
    | replace HY := Lib.hid (Own.belowAll HY.out (b6))
    | replace HY := Lib.hid (Grows.next HY.out (b6))
  first
    | replace AV := Lib.hid (Loc.At.belowAll AV.out (b6))
    | replace AV := Lib.hid (nextB AV.out (b6))
    | replace AV := Lib.hid (Boxed.keep AV.out (b6))
    | replace AV := Lib.hid (Dat.belowAll AV.out (b6))
    | replace AV := Lib.hid (Fr.belowAll AV.out (b6))
    | replace AV := Lib.hid (Own.belowAll AV.out (b6))
    | replace AV := Lib.hid (Grows.next AV.out (b6))
  first
    | replace AZ := Lib.hid (Loc.At.belowAll AZ.out (b6))
    | replace AZ := Lib.hid (nextB AZ.out (b6))
    | replace AZ := Lib.hid (Boxed.keep AZ.out (b6))
    | replace AZ := Lib.hid (Dat.belowAll AZ.out (b6))
    | replace AZ := Lib.hid (Fr.belowAll AZ.out (b6))
    | replace AZ := Lib.hid (Own.belowAll AZ.out (b6))
    | replace AZ := Lib.hid (Grows.next AZ.out (b6))
  first
    | replace FZ := Lib.hid (Loc.At.belowAll FZ.out (b6))
    | replace FZ := Lib.hid (nextB FZ.out (b6))
    | replace FZ := Lib.hid (Boxed.keep FZ.out (b6))
    | replace FZ := Lib.hid (Dat.belowAll FZ.out (b6))
    | replace FZ := Lib.hid (Fr.belowAll FZ.out (b6))
    | replace FZ := Lib.hid (Own.belowAll FZ.out (b6))
    | replace FZ := Lib.hid (Grows.next FZ.out (b6))
  first
    | replace AT := Lib.hid (Loc.At.belowAll AT.out (b6))
    | replace AT := Lib.hid (nextB AT.out (b6))
    | replace AT := Lib.hid (Boxed.keep AT.out (b6))
    | replace AT := Lib.hid (Dat.belowAll AT.out (b6))
    | replace AT := Lib.hid (Fr.belowAll AT.out (b6))
    | replace AT := Lib.hid (Own.belowAll AT.out (b6))
    | replace AT := Lib.hid (Grows.next AT.out (b6))
  first
    | replace FT := Lib.hid (Loc.At.belowAll FT.out (b6))
    | replace FT := Lib.hid (nextB FT.out (b6))
    | replace FT := Lib.hid (Boxed.keep FT.out (b6))
    | replace FT := Lib.hid (Dat.belowAll FT.out (b6))
    | replace FT := Lib.hid (Fr.belowAll FT.out (b6))
    | replace FT := Lib.hid (Own.belowAll FT.out (b6))
    | replace FT := Lib.hid (Grows.next FT.out (b6))
  first
    | replace AG := Lib.hid (Loc.At.belowAll AG.out (b6))
    | replace AG := Lib.hid (nextB AG.out (b6))
    | replace AG := Lib.hid (Boxed.keep AG.out (b6))
    | replace AG := Lib.hid (Dat.belowAll AG.out (b6))
    | replace AG := Lib.hid (Fr.belowAll AG.out (b6))
    | replace AG := Lib.hid (Own.belowAll AG.out (b6))
    | replace AG := Lib.hid (Grows.next AG.out (b6))
  first
    | replace FG := Lib.hid (Loc.At.belowAll FG.out (b6))
    | replace FG := Lib.hid (nextB FG.out (b6))
    | replace FG := Lib.hid (Boxed.keep FG.out (b6))
    | replace FG := Lib.hid (Dat.belowAll FG.out (b6))
    | replace FG := Lib.hid (Fr.belowAll FG.out (b6))
    | replace FG := Lib.hid (Own.belowAll FG.out (b6))
    | replace FG := Lib.hid (Grows.next FG.out (b6))
  clear b6 hq
  go_wp2_with fail
  refine (toFileS_any x w6 HX.out HM.out).mono ?_
  rintro e w7 ⟨t, rfl, ht, htA, -, b7⟩
  first
    | replace B := Lib.hid (Loc.At.belowAll B.out (b7))
    | replace B := Lib.hid (nextB B.out (b7))
    | replace B := Lib.hid (Boxed.keep B.out (b7))
    | replace B := Lib.hid (Dat.belowAll B.out (b7))
    | replace B := Lib.hid (Fr.belowAll B.out (b7))
    | replace B := Lib.hid (Own.belowAll B.out (b7))
    | replace B := Lib.hid (Grows.next B.out (b7))
  first
    | replace HX := Lib.hid (Loc.At.belowAll HX.out (b7))
    | replace HX := Lib.hid (nextB HX.out (b7))
    | replace HX := Lib.hid (Boxed.keep HX.out (b7))
    | replace HX := Lib.hid (Dat.belowAll HX.out (b7))
    | replace HX := Lib.hid (Fr.belowAll HX.out (b7))
    | replace HX := Lib.hid (Own.belowAll HX.out (b7))
    | replace HX := Lib.hid (Grows.next HX.out (b7))
  first
    | replace HY := Lib.hid (Loc.At.belowAll HY.out (b7))
    | replace HY := Lib.hid (nextB HY.out (b7))
    | replace HY := Lib.hid (Boxed.keep HY.out (b7))
    | replace HY := Lib.hid (Dat.belowAll HY.out (b7))
    | replace HY := Lib.hid (Fr.belowAll HY.out (b7))
    | replace HY := Lib.hid (Own.belowAll HY.out (b7))
    | replace HY := Lib.hid (Grows.next HY.out (b7))
  first
    | replace AV := Lib.hid (Loc.At.belowAll AV.out (b7))
    | replace AV := Lib.hid (nextB AV.out (b7))
    | replace AV := Lib.hid (Boxed.keep AV.out (b7))
    | replace AV := Lib.hid (Dat.belowAll AV.out (b7))
    | replace AV := Lib.hid (Fr.belowAll AV.out (b7))
    | replace AV := Lib.hid (Own.belowAll AV.out (b7))
    | replace AV := Lib.hid (Grows.next AV.out (b7))
  first
    | replace AZ := Lib.hid (Loc.At.belowAll AZ.out (b7))
    | replace AZ := Lib.hid (nextB AZ.out (b7))
    | replace AZ := Lib.hid (Boxed.keep AZ.out (b7))
    | replace AZ := Lib.hid (Dat.belowAll AZ.out (b7))
    | replace AZ := Lib.hid (Fr.belowAll AZ.out (b7))
    | replace AZ := Lib.hid (Own.belowAll AZ.out (b7))
    | replace AZ := Lib.hid (Grows.next AZ.out (b7))
  first
    | replace FZ := Lib.hid (Loc.At.belowAll FZ.out (b7))
    | replace FZ := Lib.hid (nextB FZ.out (b7))
    | replace FZ := Lib.hid (Boxed.keep FZ.out (b7))
    | replace FZ := Lib.hid (Dat.belowAll FZ.out (b7))
    | replace FZ := Lib.hid (Fr.belowAll FZ.out (b7))
    | replace FZ := Lib.hid (Own.belowAll FZ.out (b7))
    | replace FZ := Lib.hid (Grows.next FZ.out (b7))
  first
    | replace AT := Lib.hid (Loc.At.belowAll AT.out (b7))
    | replace AT := Lib.hid (nextB AT.out (b7))
    | replace AT := Lib.hid (Boxed.keep AT.out (b7))
    | replace AT := Lib.hid (Dat.belowAll AT.out (b7))
    | replace AT := Lib.hid (Fr.belowAll AT.out (b7))
    | replace AT := Lib.hid (Own.belowAll AT.out (b7))
    | replace AT := Lib.hid (Grows.next AT.out (b7))
  first
    | replace FT := Lib.hid (Loc.At.belowAll FT.out (b7))
    | replace FT := Lib.hid (nextB FT.out (b7))
    | replace FT := Lib.hid (Boxed.keep FT.out (b7))
    | replace FT := Lib.hid (Dat.belowAll FT.out (b7))
    | replace FT := Lib.hid (Fr.belowAll FT.out (b7))
    | replace FT := Lib.hid (Own.belowAll FT.out (b7))
    | replace FT := Lib.hid (Grows.next FT.out (b7))
  first
    | replace AG := Lib.hid (Loc.At.belowAll AG.out (b7))
    | replace AG := Lib.hid (nextB AG.out (b7))
    | replace AG := Lib.hid (Boxed.keep AG.out (b7))
    | replace AG := Lib.hid (Dat.belowAll AG.out (b7))
    | replace AG := Lib.hid (Fr.belowAll AG.out (b7))
    | replace AG := Lib.hid (Own.belowAll AG.out (b7))
    | replace AG := Lib.hid (Grows.next AG.out (b7))
  first
    | replace FG := Lib.hid (Loc.At.belowAll FG.out (b7))
    | replace FG := Lib.hid (nextB FG.out (b7))
    | replace FG := Lib.hid (Boxed.keep FG.out (b7))
    | replace FG := Lib.hid (Dat.belowAll FG.out (b7))
    | replace FG := Lib.hid (Fr.belowAll FG.out (b7))
    | replace FG := Lib.hid (Own.belowAll FG.out (b7))
    | replace FG := Lib.hid (Grows.next FG.out (b7))
  have HT := Lib.hid (show t.xs.map LFile.er = x.xs.map LFile.er from ht)
  have AT7 := Lib.hid htA
  clear b7 ht htA
  go_wp2_with fail
  refine (eqFileS_any z t w7 AZ.out AT7.out).mono ?_
  rintro e w8 ⟨⟨q, rfl, hq⟩, b8⟩
  obtain rfl : q = true := hq.2 (HZE.out.trans HT.out.symm)
  first
    | replace B := Lib.hid (Loc.At.belowAll B.out (b8))
    | replace B := Lib.hid (nextB B.out (b8))
    | replace B := Lib.hid (Boxed.keep B.out (b8))
    | replace B := Lib.hid (Dat.belowAll B.out (b8))
    | replace B := Lib.hid (Fr.belowAll B.out (b8))
    | replace B := Lib.hid (Own.belowAll B.out (b8))
    | replace B := Lib.hid (Grows.next B.out (b8))
  first
    | replace HX := Lib.hid (Loc.At.belowAll HX.out (b8))
    | replace HX := Lib.hid (nextB HX.out (b8))
    | replace HX := Lib.hid (Boxed.keep HX.out (b8))
    | replace HX := Lib.hid (Dat.belowAll HX.out (b8))
    | replace HX := Lib.hid (Fr.belowAll HX.out (b8))
    | replace HX := Lib.hid (Own.belowAll HX.out (b8))
    | replace HX := Lib.hid (Grows.next HX.out (b8))
  first
    | replace HY := Lib.hid (Loc.At.belowAll HY.out (b8))
    | replace HY := Lib.hid (nextB HY.out (b8))
    | replace HY := Lib.hid (Boxed.keep HY.out (b8))
    | replace HY := Lib.hid (Dat.belowAll HY.out (b8))
    | replace HY := Lib.hid (Fr.belowAll HY.out (b8))
    | replace HY := Lib.hid (Own.belowAll HY.out (b8))
    | replace HY := Lib.hid (Grows.next HY.out (b8))
  first
    | replace AV := Lib.hid (Loc.At.belowAll AV.out (b8))
    | replace AV := Lib.hid (nextB AV.out (b8))
    | replace AV := Lib.hid (Boxed.keep AV.out (b8))
    | replace AV := Lib.hid (Dat.belowAll AV.out (b8))
    | replace AV := Lib.hid (Fr.belowAll AV.out (b8))
    | replace AV := Lib.hid (Own.belowAll AV.out (b8))
    | replace AV := Lib.hid (Grows.next AV.out (b8))
  first
    | replace AZ := Lib.hid (Loc.At.belowAll AZ.out (b8))
    | replace AZ := Lib.hid (nextB AZ.out (b8))
    | replace AZ := Lib.hid (Boxed.keep AZ.out (b8))
    | replace AZ := Lib.hid (Dat.belowAll AZ.out (b8))
    | replace AZ := Lib.hid (Fr.belowAll AZ.out (b8))
    | replace AZ := Lib.hid (Own.belowAll AZ.out (b8))
    | replace AZ := Lib.hid (Grows.next AZ.out (b8))
  first
    | replace FZ := Lib.hid (Loc.At.belowAll FZ.out (b8))
    | replace FZ := Lib.hid (nextB FZ.out (b8))
    | replace FZ := Lib.hid (Boxed.keep FZ.out (b8))
    | replace FZ := Lib.hid (Dat.belowAll FZ.out (b8))
    | replace FZ := Lib.hid (Fr.belowAll FZ.out (b8))
    | replace FZ := Lib.hid (Own.belowAll FZ.out (b8))
    | replace FZ := Lib.hid (Grows.next FZ.out (b8))
  first
    | replace AT := Lib.hid (Loc.At.belowAll AT.out (b8))
    | replace AT := Lib.hid (nextB AT.out (b8))
    | replace AT := Lib.hid (Boxed.keep AT.out (b8))
    | replace AT := Lib.hid (Dat.belowAll AT.out (b8))
    | replace AT := Lib.hid (Fr.belowAll AT.out (b8))
    | replace AT := Lib.hid (Own.belowAll AT.out (b8))
    | replace AT := Lib.hid (Grows.next AT.out (b8))
  first
    | replace FT := Lib.hid (Loc.At.belowAll FT.out (b8))
    | replace FT := Lib.hid (nextB FT.out (b8))
    | replace FT := Lib.hid (Boxed.keep FT.out (b8))
    | replace FT := Lib.hid (Dat.belowAll FT.out (b8))
    | replace FT := Lib.hid (Fr.belowAll FT.out (b8))
    | replace FT := Lib.hid (Own.belowAll FT.out (b8))
    | replace FT := Lib.hid (Grows.next FT.out (b8))
  first
    | replace AG := Lib.hid (Loc.At.belowAll AG.out (b8))
    | replace AG := Lib.hid (nextB AG.out (b8))
    | replace AG := Lib.hid (Boxed.keep AG.out (b8))
    | replace AG := Lib.hid (Dat.belowAll AG.out (b8))
    | replace AG := Lib.hid (Fr.belowAll AG.out (b8))
    | replace AG := Lib.hid (Own.belowAll AG.out (b8))
    | replace AG := Lib.hid (Grows.next AG.out (b8))
  first
    | replace FG := Lib.hid (Loc.At.belowAll FG.out (b8))
    | replace FG := Lib.hid (nextB FG.out (b8))
    | replace FG := Lib.hid (Boxed.keep FG.out (b8))
    | replace FG := Lib.hid (Dat.belowAll FG.out (b8))
    | replace FG := Lib.hid (Fr.belowAll FG.out (b8))
    | replace FG := Lib.hid (Own.belowAll FG.out (b8))
    | replace FG := Lib.hid (Grows.next FG.out (b8))
  clear b8 hq HT AT7
  go_wp2_with fail
  refine (toFileS_any y w8 HY.out HMY.out).mono ?_
  rintro e w7 ⟨t, rfl, ht, htA, -, b7⟩
  first
    | replace B := Lib.hid (Loc.At.belowAll B.out (b7))
    | replace B := Lib.hid (nextB B.out (b7))
    | replace B := Lib.hid (Boxed.keep B.out (b7))
    | replace B := Lib.hid (Dat.belowAll B.out (b7))
    | replace B := Lib.hid (Fr.belowAll B.out (b7))
    | replace B := Lib.hid (Own.belowAll B.out (b7))
    | replace B := Lib.hid (Grows.next B.out (b7))
  first
    | replace HX := Lib.hid (Loc.At.belowAll HX.out (b7))
    | replace HX := Lib.hid (nextB HX.out (b7))
    | replace HX := Lib.hid (Boxed.keep HX.out (b7))
    | replace HX := Lib.hid (Dat.belowAll HX.out (b7))
    | replace HX := Lib.hid (Fr.belowAll HX.out (b7))
    | replace HX := Lib.hid (Own.belowAll HX.out (b7))
    | replace HX := Lib.hid (Grows.next HX.out (b7))
  first
    | replace HY := Lib.hid (Loc.At.belowAll HY.out (b7))
    | replace HY := Lib.hid (nextB HY.out (b7))
    | replace HY := Lib.hid (Boxed.keep HY.out (b7))
    | replace HY := Lib.hid (Dat.belowAll HY.out (b7))
    | replace HY := Lib.hid (Fr.belowAll HY.out (b7))
    | replace HY := Lib.hid (Own.belowAll HY.out (b7))
    | replace HY := Lib.hid (Grows.next HY.out (b7))
  first
    | replace AV := Lib.hid (Loc.At.belowAll AV.out (b7))
    | replace AV := Lib.hid (nextB AV.out (b7))
    | replace AV := Lib.hid (Boxed.keep AV.out (b7))
    | replace AV := Lib.hid (Dat.belowAll AV.out (b7))
    | replace AV := Lib.hid (Fr.belowAll AV.out (b7))
    | replace AV := Lib.hid (Own.belowAll AV.out (b7))
    | replace AV := Lib.hid (Grows.next AV.out (b7))
  first
    | replace AZ := Lib.hid (Loc.At.belowAll AZ.out (b7))
    | replace AZ := Lib.hid (nextB AZ.out (b7))
    | replace AZ := Lib.hid (Boxed.keep AZ.out (b7))
    | replace AZ := Lib.hid (Dat.belowAll AZ.out (b7))
    | replace AZ := Lib.hid (Fr.belowAll AZ.out (b7))
    | replace AZ := Lib.hid (Own.belowAll AZ.out (b7))
    | replace AZ := Lib.hid (Grows.next AZ.out (b7))
  first
    | replace FZ := Lib.hid (Loc.At.belowAll FZ.out (b7))
    | replace FZ := Lib.hid (nextB FZ.out (b7))
    | replace FZ := Lib.hid (Boxed.keep FZ.out (b7))
    | replace FZ := Lib.hid (Dat.belowAll FZ.out (b7))
    | replace FZ := Lib.hid (Fr.belowAll FZ.out (b7))
    | replace FZ := Lib.hid (Own.belowAll FZ.out (b7))
    | replace FZ := Lib.hid (Grows.next FZ.out (b7))
  first
    | replace AT := Lib.hid (Loc.At.belowAll AT.out (b7))
    | replace AT := Lib.hid (nextB AT.out (b7))
    | replace AT := Lib.hid (Boxed.keep AT.out (b7))
    | replace AT := Lib.hid (Dat.belowAll AT.out (b7))
    | replace AT := Lib.hid (Fr.belowAll AT.out (b7))
    | replace AT := Lib.hid (Own.belowAll AT.out (b7))
    | replace AT := Lib.hid (Grows.next AT.out (b7))
  first
    | replace FT := Lib.hid (Loc.At.belowAll FT.out (b7))
    | replace FT := Lib.hid (nextB FT.out (b7))
    | replace FT := Lib.hid (Boxed.keep FT.out (b7))
    | replace FT := Lib.hid (Dat.belowAll FT.out (b7))
    | replace FT := Lib.hid (Fr.belowAll FT.out (b7))
    | replace FT := Lib.hid (Own.belowAll FT.out (b7))
    | replace FT := Lib.hid (Grows.next FT.out (b7))
  first
    | replace AG := Lib.hid (Loc.At.belowAll AG.out (b7))
    | replace AG := Lib.hid (nextB AG.out (b7))
    | replace AG := Lib.hid (Boxed.keep AG.out (b7))
    | replace AG := Lib.hid (Dat.belowAll AG.out (b7))
    | replace AG := Lib.hid (Fr.belowAll AG.out (b7))
    | replace AG := Lib.hid (Own.belowAll AG.out (b7))
    | replace AG := Lib.hid (Grows.next AG.out (b7))
  first
    | replace FG := Lib.hid (Loc.At.belowAll FG.out (b7))
    | replace FG := Lib.hid (nextB FG.out (b7))
    | replace FG := Lib.hid (Boxed.keep FG.out (b7))
    | replace FG := Lib.hid (Dat.belowAll FG.out (b7))
    | replace FG := Lib.hid (Fr.belowAll FG.out (b7))
    | replace FG := Lib.hid (Own.belowAll FG.out (b7))
    | replace FG := Lib.hid (Grows.next FG.out (b7))
  have HT := Lib.hid (show t.xs.map LFile.er = y.xs.map LFile.er from ht)
  have AT7 := Lib.hid htA
  clear b7 ht htA
  go_wp2_with fail
  refine (eqFileS_any t0 t w7 AT.out AT7.out).mono ?_
  rintro e w8 ⟨⟨q, rfl, hq⟩, b8⟩
  obtain rfl : q = true := hq.2 (HTE.out.trans HT.out.symm)
  first
    | replace B := Lib.hid (Loc.At.belowAll B.out (b8))
    | replace B := Lib.hid (nextB B.out (b8))
    | replace B := Lib.hid (Boxed.keep B.out (b8))
    | replace B := Lib.hid (Dat.belowAll B.out (b8))
    | replace B := Lib.hid (Fr.belowAll B.out (b8))
    | replace B := Lib.hid (Own.belowAll B.out (b8))
    | replace B := Lib.hid (Grows.next B.out (b8))
  first
    | replace HX := Lib.hid (Loc.At.belowAll HX.out (b8))
    | replace HX := Lib.hid (nextB HX.out (b8))
    | replace HX := Lib.hid (Boxed.keep HX.out (b8))
    | replace HX := Lib.hid (Dat.belowAll HX.out (b8))
    | replace HX := Lib.hid (Fr.belowAll HX.out (b8))
    | replace HX := Lib.hid (Own.belowAll HX.out (b8))
    | replace HX := Lib.hid (Grows.next HX.out (b8))
  first
    | replace HY := Lib.hid (Loc.At.belowAll HY.out (b8))
    | replace HY := Lib.hid (nextB HY.out (b8))
    | replace HY := Lib.hid (Boxed.keep HY.out (b8))
    | replace HY := Lib.hid (Dat.belowAll HY.out (b8))
    | replace HY := Lib.hid (Fr.belowAll HY.out (b8))
    | replace HY := Lib.hid (Own.belowAll HY.out (b8))
    | replace HY := Lib.hid (Grows.next HY.out (b8))
  first
    | replace AV := Lib.hid (Loc.At.belowAll AV.out (b8))
    | replace AV := Lib.hid (nextB AV.out (b8))
    | replace AV := Lib.hid (Boxed.keep AV.out (b8))
    | replace AV := Lib.hid (Dat.belowAll AV.out (b8))
    | replace AV := Lib.hid (Fr.belowAll AV.out (b8))
    | replace AV := Lib.hid (Own.belowAll AV.out (b8))
    | replace AV := Lib.hid (Grows.next AV.out (b8))
  first
    | replace AZ := Lib.hid (Loc.At.belowAll AZ.out (b8))
    | replace AZ := Lib.hid (nextB AZ.out (b8))
    | replace AZ := Lib.hid (Boxed.keep AZ.out (b8))
    | replace AZ := Lib.hid (Dat.belowAll AZ.out (b8))
    | replace AZ := Lib.hid (Fr.belowAll AZ.out (b8))
    | replace AZ := Lib.hid (Own.belowAll AZ.out (b8))
    | replace AZ := Lib.hid (Grows.next AZ.out (b8))
  first
    | replace FZ := Lib.hid (Loc.At.belowAll FZ.out (b8))
    | replace FZ := Lib.hid (nextB FZ.out (b8))
    | replace FZ := Lib.hid (Boxed.keep FZ.out (b8))
    | replace FZ := Lib.hid (Dat.belowAll FZ.out (b8))
    | replace FZ := Lib.hid (Fr.belowAll FZ.out (b8))
    | replace FZ := Lib.hid (Own.belowAll FZ.out (b8))
    | replace FZ := Lib.hid (Grows.next FZ.out (b8))
  first
    | replace AT := Lib.hid (Loc.At.belowAll AT.out (b8))
    | replace AT := Lib.hid (nextB AT.out (b8))
    | replace AT := Lib.hid (Boxed.keep AT.out (b8))
    | replace AT := Lib.hid (Dat.belowAll AT.out (b8))
    | replace AT := Lib.hid (Fr.belowAll AT.out (b8))
    | replace AT := Lib.hid (Own.belowAll AT.out (b8))
    | replace AT := Lib.hid (Grows.next AT.out (b8))
  first
    | replace FT := Lib.hid (Loc.At.belowAll FT.out (b8))
    | replace FT := Lib.hid (nextB FT.out (b8))
    | replace FT := Lib.hid (Boxed.keep FT.out (b8))
    | replace FT := Lib.hid (Dat.belowAll FT.out (b8))
    | replace FT := Lib.hid (Fr.belowAll FT.out (b8))
    | replace FT := Lib.hid (Own.belowAll FT.out (b8))
    | replace FT := Lib.hid (Grows.next FT.out (b8))
  first
    | replace AG := Lib.hid (Loc.At.belowAll AG.out (b8))
    | replace AG := Lib.hid (nextB AG.out (b8))
    | replace AG := Lib.hid (Boxed.keep AG.out (b8))
    | replace AG := Lib.hid (Dat.belowAll AG.out (b8))
    | replace AG := Lib.hid (Fr.belowAll AG.out (b8))
    | replace AG := Lib.hid (Own.belowAll AG.out (b8))
    | replace AG := Lib.hid (Grows.next AG.out (b8))
  first
    | replace FG := Lib.hid (Loc.At.belowAll FG.out (b8))
    | replace FG := Lib.hid (nextB FG.out (b8))
    | replace FG := Lib.hid (Boxed.keep FG.out (b8))
    | replace FG := Lib.hid (Dat.belowAll FG.out (b8))
    | replace FG := Lib.hid (Fr.belowAll FG.out (b8))
    | replace FG := Lib.hid (Own.belowAll FG.out (b8))
    | replace FG := Lib.hid (Grows.next FG.out (b8))
  clear b8 hq HT AT7
  -- the first argument marked
  have hm0 := markFileS_any z 1 w.heap.size w8 AZ.out (FZ.out.mono S3.out) (Nat.le_refl _) (by rw [HZE.out]; have := HLX.out; omega)
  rw [HZE.out] at hm0
  have HM0 := Lib.hid hm0
  have hmb0 : 1 + lenF (x.xs.map LFile.er) ≤ 2097153 := by have := HLX.out; omega
  have hmb1 : 1 ≤ 1 + lenF (x.xs.map LFile.er) := by omega
  generalize hke : 1 + lenF (x.xs.map LFile.er) = kk at *
  have HKB := Lib.hid hmb0
  have HK1 := Lib.hid hmb1
  clear hm0 hke hmb0 hmb1
  go_wp2_with fail
  refine HM0.out.mono ?_
  rintro e w9 ⟨zs, rfl, -, -, -, -, hT⟩
  replace B := Lib.hid (B.out.trans (hT.below B.out.size (fun b hb => by have := FZ.out.ge b hb; have := S3.out; omega)))
  replace HX := Lib.hid (hT.keepLoc HX.out (fun b hb hb2 => by have := LX0.out b hb; have := FZ.out.ge b hb2; have := S3.out; omega))
  replace HY := Lib.hid (hT.keepLoc HY.out (fun b hb hb2 => by have := LY0.out b hb; have := FZ.out.ge b hb2; have := S3.out; omega))
  replace AV := Lib.hid (hT.keepLoc AV.out (fun b hb hb2 => by have := LV.out b hb; have := FZ.out.ge b hb2; omega))
  replace AT := Lib.hid (hT.keepLoc AT.out (fun b hb hb2 => by have := FT.out.ge b hb; have := LZ.out b hb2; omega))
  replace FT := Lib.hid (hT.keepFr FT.out (fun b hb hb2 => by have := FT.out.ge b hb; have := LZ.out b hb2; omega))
  replace AG := Lib.hid (hT.keepLoc AG.out (fun b hb hb2 => by have := FG.out.ge b hb; have := LZ.out b hb2; have := S44.out; omega))
  replace FG := Lib.hid (hT.keepFr FG.out (fun b hb hb2 => by have := FG.out.ge b hb; have := LZ.out b hb2; have := S44.out; omega))
  clear hT AZ FZ HM0
  -- the second
  have hm0 := markFileS_any t0 kk w.heap.size w9 AT.out (FT.out.mono (by have := S4'.out; omega)) HK1.out (by rw [HTE.out]; have := HLY.out; have := HKB.out; omega)
  rw [HTE.out] at hm0
  have HM0 := Lib.hid hm0
  have hmb : kk + lenF (y.xs.map LFile.er) ≤ 1099511627776 := by have := HLY.out; have := HKB.out; omega
  generalize hke : kk + lenF (y.xs.map LFile.er) = k2 at *
  clear hm0 hke
  go_wp2_with fail
  refine HM0.out.mono ?_
  rintro e w9' ⟨zs, rfl, -, -, -, -, hT⟩
  replace B := Lib.hid (B.out.trans (hT.below B.out.size (fun b hb => by have := FT.out.ge b hb; have := S4'.out; omega)))
  replace HX := Lib.hid (hT.keepLoc HX.out (fun b hb hb2 => by have := LX0.out b hb; have := FT.out.ge b hb2; have := S4'.out; omega))
  replace HY := Lib.hid (hT.keepLoc HY.out (fun b hb hb2 => by have := LY0.out b hb; have := FT.out.ge b hb2; have := S4'.out; omega))
  replace AV := Lib.hid (hT.keepLoc AV.out (fun b hb hb2 => by have := LV.out b hb; have := FT.out.ge b hb2; have := S34.out; omega))
  replace AG := Lib.hid (hT.keepLoc AG.out (fun b hb hb2 => by have := FG.out.ge b hb; have := LT.out b hb2; omega))
  replace FG := Lib.hid (hT.keepFr FG.out (fun b hb hb2 => by have := FG.out.ge b hb; have := LT.out b hb2; omega))
  clear hT AT FT HM0
  have hkn : ¬ ((k2 : Nat) : Int) < 0 := by omega
  have hkd : decide (((k2 : Nat) : Int) < 0) = false := decide_eq_false hkn
  go_wp2_with fail
  refine (eqFileS_any g v w9' AG.out AV.out).mono ?_
  rintro e w10 ⟨⟨q, rfl, hq⟩, b10⟩
  obtain rfl : q = true := hq.2 (HG.out.trans HV.out.symm)
  first
    | replace B := Lib.hid (Loc.At.belowAll B.out (b10))
    | replace B := Lib.hid (nextB B.out (b10))
    | replace B := Lib.hid (Boxed.keep B.out (b10))
    | replace B := Lib.hid (Dat.belowAll B.out (b10))
    | replace B := Lib.hid (Fr.belowAll B.out (b10))
    | replace B := Lib.hid (Own.belowAll B.out (b10))
    | replace B := Lib.hid (Grows.next B.out (b10))
  first
    | replace HX := Lib.hid (Loc.At.belowAll HX.out (b10))
    | replace HX := Lib.hid (nextB HX.out (b10))
    | replace HX := Lib.hid (Boxed.keep HX.out (b10))
    | replace HX := Lib.hid (Dat.belowAll HX.out (b10))
    | replace HX := Lib.hid (Fr.belowAll HX.out (b10))
    | replace HX := Lib.hid (Own.belowAll HX.out (b10))
    | replace HX := Lib.hid (Grows.next HX.out (b10))
  first
    | replace HY := Lib.hid (Loc.At.belowAll HY.out (b10))
    | replace HY := Lib.hid (nextB HY.out (b10))
    | replace HY := Lib.hid (Boxed.keep HY.out (b10))
    | replace HY := Lib.hid (Dat.belowAll HY.out (b10))
    | replace HY := Lib.hid (Fr.belowAll HY.out (b10))
    | replace HY := Lib.hid (Own.belowAll HY.out (b10))
    | replace HY := Lib.hid (Grows.next HY.out (b10))
  first
    | replace AV := Lib.hid (Loc.At.belowAll AV.out (b10))
    | replace AV := Lib.hid (nextB AV.out (b10))
    | replace AV := Lib.hid (Boxed.keep AV.out (b10))
    | replace AV := Lib.hid (Dat.belowAll AV.out (b10))
    | replace AV := Lib.hid (Fr.belowAll AV.out (b10))
    | replace AV := Lib.hid (Own.belowAll AV.out (b10))
    | replace AV := Lib.hid (Grows.next AV.out (b10))
  first
    | replace AG := Lib.hid (Loc.At.belowAll AG.out (b10))
    | replace AG := Lib.hid (nextB AG.out (b10))
    | replace AG := Lib.hid (Boxed.keep AG.out (b10))
    | replace AG := Lib.hid (Dat.belowAll AG.out (b10))
    | replace AG := Lib.hid (Fr.belowAll AG.out (b10))
    | replace AG := Lib.hid (Own.belowAll AG.out (b10))
    | replace AG := Lib.hid (Grows.next AG.out (b10))
  first
    | replace FG := Lib.hid (Loc.At.belowAll FG.out (b10))
    | replace FG := Lib.hid (nextB FG.out (b10))
    | replace FG := Lib.hid (Boxed.keep FG.out (b10))
    | replace FG := Lib.hid (Dat.belowAll FG.out (b10))
    | replace FG := Lib.hid (Fr.belowAll FG.out (b10))
    | replace FG := Lib.hid (Own.belowAll FG.out (b10))
    | replace FG := Lib.hid (Grows.next FG.out (b10))
  clear b10 hq hkn hkd hmb
  have hmg := markFileS_any g 1 w.heap.size w10 AG.out (FG.out.mono S4.out) (Nat.le_refl _) (by rw [HG.out]; have := HZL.out; omega)
  rw [HG.out] at hmg
  have HMG := Lib.hid hmg
  generalize hme : 1 + lenF Z = mm at *
  have hmm : mm ≤ 500 := by have := HZL.out; omega
  have HME := Lib.hid hme
  clear hmg hme
  go_wp2_with fail
  refine HMG.out.mono ?_
  rintro e w11 ⟨gs, rfl, hgs, hgf, hgA, -, hT⟩
  replace B := Lib.hid (B.out.trans (hT.below B.out.size (fun b hb => by have := FG.out.ge b hb; have := S4.out; omega)))
  replace HX := Lib.hid (hT.keepLoc HX.out (fun b hb hb2 => by have := LX0.out b hb; have := FG.out.ge b hb2; have := S4.out; omega))
  replace HY := Lib.hid (hT.keepLoc HY.out (fun b hb hb2 => by have := LY0.out b hb; have := FG.out.ge b hb2; have := S4.out; omega))
  replace AV := Lib.hid (hT.keepLoc AV.out (fun b hb hb2 => by have := LV.out b hb; have := FG.out.ge b hb2; have := S34.out; have := S44.out; omega))
  have HGA := Lib.hid hgA
  have HVAL : Hid ((g.re gs).val = g.val) := Lib.hid (by
    have := congrArg List.length hgf
    simp only [List.length_map] at this
    simp only [Loc.val, Loc.re, this])
  have HH : Hid (∀ W, (g.re gs).At W → Calls Tryz.prog 16 #[g.val, .int .i64 1] W fun e w' => e = .returned (.int .i64 (mm : Int)) ∧ Below W.heap.size W w') := Lib.hid (fun W hW => by
    have h := markF_held (x := g) (Z := Z) HVAL.out hW hgs (by have := HZL.out; omega)
    rw [HME.out] at h
    exact h)
  clear hT hgs hgf hgA AG FG HMG
  have hmn : ¬ ((mm : Nat) : Int) < 0 := by omega
  have hmne : (((mm : Nat) : Int) != ((mm : Nat) : Int)) = false := by simp
  go_wp2_with fail
  refine (HH.out w11 HGA.out).mono ?_
  rintro e w12 ⟨rfl, b12⟩
  first
    | replace B := Lib.hid (Loc.At.belowAll B.out (b12))
    | replace B := Lib.hid (nextB B.out (b12))
    | replace B := Lib.hid (Boxed.keep B.out (b12))
    | replace B := Lib.hid (Dat.belowAll B.out (b12))
    | replace B := Lib.hid (Fr.belowAll B.out (b12))
    | replace B := Lib.hid (Own.belowAll B.out (b12))
    | replace B := Lib.hid (Grows.next B.out (b12))
  first
    | replace HX := Lib.hid (Loc.At.belowAll HX.out (b12))
    | replace HX := Lib.hid (nextB HX.out (b12))
    | replace HX := Lib.hid (Boxed.keep HX.out (b12))
    | replace HX := Lib.hid (Dat.belowAll HX.out (b12))
    | replace HX := Lib.hid (Fr.belowAll HX.out (b12))
    | replace HX := Lib.hid (Own.belowAll HX.out (b12))
    | replace HX := Lib.hid (Grows.next HX.out (b12))
  first
    | replace HY := Lib.hid (Loc.At.belowAll HY.out (b12))
    | replace HY := Lib.hid (nextB HY.out (b12))
    | replace HY := Lib.hid (Boxed.keep HY.out (b12))
    | replace HY := Lib.hid (Dat.belowAll HY.out (b12))
    | replace HY := Lib.hid (Fr.belowAll HY.out (b12))
    | replace HY := Lib.hid (Own.belowAll HY.out (b12))
    | replace HY := Lib.hid (Grows.next HY.out (b12))
  first
    | replace AV := Lib.hid (Loc.At.belowAll AV.out (b12))
    | replace AV := Lib.hid (nextB AV.out (b12))
    | replace AV := Lib.hid (Boxed.keep AV.out (b12))
    | replace AV := Lib.hid (Dat.belowAll AV.out (b12))
    | replace AV := Lib.hid (Fr.belowAll AV.out (b12))
    | replace AV := Lib.hid (Own.belowAll AV.out (b12))
    | replace AV := Lib.hid (Grows.next AV.out (b12))
  first
    | replace HGA := Lib.hid (Loc.At.belowAll HGA.out (b12))
    | replace HGA := Lib.hid (nextB HGA.out (b12))
    | replace HGA := Lib.hid (Boxed.keep HGA.out (b12))
    | replace HGA := Lib.hid (Dat.belowAll HGA.out (b12))
    | replace HGA := Lib.hid (Fr.belowAll HGA.out (b12))
    | replace HGA := Lib.hid (Own.belowAll HGA.out (b12))
    | replace HGA := Lib.hid (Grows.next HGA.out (b12))
  clear b12
  go_wp2_with fail
  refine (toFileS_any x w12 HX.out HM.out).mono ?_
  rintro e w13 ⟨u, rfl, hu, huA, -, b13⟩
  first
    | replace B := Lib.hid (Loc.At.belowAll B.out (b13))
    | replace B := Lib.hid (nextB B.out (b13))
    | replace B := Lib.hid (Boxed.keep B.out (b13))
    | replace B := Lib.hid (Dat.belowAll B.out (b13))
    | replace B := Lib.hid (Fr.belowAll B.out (b13))
    | replace B := Lib.hid (Own.belowAll B.out (b13))
    | replace B := Lib.hid (Grows.next B.out (b13))
  first
    | replace HY := Lib.hid (Loc.At.belowAll HY.out (b13))
    | replace HY := Lib.hid (nextB HY.out (b13))
    | replace HY := Lib.hid (Boxed.keep HY.out (b13))
    | replace HY := Lib.hid (Dat.belowAll HY.out (b13))
    | replace HY := Lib.hid (Fr.belowAll HY.out (b13))
    | replace HY := Lib.hid (Own.belowAll HY.out (b13))
    | replace HY := Lib.hid (Grows.next HY.out (b13))
  first
    | replace AV := Lib.hid (Loc.At.belowAll AV.out (b13))
    | replace AV := Lib.hid (nextB AV.out (b13))
    | replace AV := Lib.hid (Boxed.keep AV.out (b13))
    | replace AV := Lib.hid (Dat.belowAll AV.out (b13))
    | replace AV := Lib.hid (Fr.belowAll AV.out (b13))
    | replace AV := Lib.hid (Own.belowAll AV.out (b13))
    | replace AV := Lib.hid (Grows.next AV.out (b13))
  first
    | replace HGA := Lib.hid (Loc.At.belowAll HGA.out (b13))
    | replace HGA := Lib.hid (nextB HGA.out (b13))
    | replace HGA := Lib.hid (Boxed.keep HGA.out (b13))
    | replace HGA := Lib.hid (Dat.belowAll HGA.out (b13))
    | replace HGA := Lib.hid (Fr.belowAll HGA.out (b13))
    | replace HGA := Lib.hid (Own.belowAll HGA.out (b13))
    | replace HGA := Lib.hid (Grows.next HGA.out (b13))
  have HU := Lib.hid (show u.xs.map LFile.er = x.xs.map LFile.er from hu)
  have AU := Lib.hid huA
  clear b13 hu huA HX
  go_wp2_with fail
  refine (toFileS_any y w13 HY.out HMY.out).mono ?_
  rintro e w13' ⟨u2, rfl, hu, huA, -, b13⟩
  first
    | replace B := Lib.hid (Loc.At.belowAll B.out (b13))
    | replace B := Lib.hid (nextB B.out (b13))
    | replace B := Lib.hid (Boxed.keep B.out (b13))
    | replace B := Lib.hid (Dat.belowAll B.out (b13))
    | replace B := Lib.hid (Fr.belowAll B.out (b13))
    | replace B := Lib.hid (Own.belowAll B.out (b13))
    | replace B := Lib.hid (Grows.next B.out (b13))
  first
    | replace AV := Lib.hid (Loc.At.belowAll AV.out (b13))
    | replace AV := Lib.hid (nextB AV.out (b13))
    | replace AV := Lib.hid (Boxed.keep AV.out (b13))
    | replace AV := Lib.hid (Dat.belowAll AV.out (b13))
    | replace AV := Lib.hid (Fr.belowAll AV.out (b13))
    | replace AV := Lib.hid (Own.belowAll AV.out (b13))
    | replace AV := Lib.hid (Grows.next AV.out (b13))
  first
    | replace HGA := Lib.hid (Loc.At.belowAll HGA.out (b13))
    | replace HGA := Lib.hid (nextB HGA.out (b13))
    | replace HGA := Lib.hid (Boxed.keep HGA.out (b13))
    | replace HGA := Lib.hid (Dat.belowAll HGA.out (b13))
    | replace HGA := Lib.hid (Fr.belowAll HGA.out (b13))
    | replace HGA := Lib.hid (Own.belowAll HGA.out (b13))
    | replace HGA := Lib.hid (Grows.next HGA.out (b13))
  first
    | replace AU := Lib.hid (Loc.At.belowAll AU.out (b13))
    | replace AU := Lib.hid (nextB AU.out (b13))
    | replace AU := Lib.hid (Boxed.keep AU.out (b13))
    | replace AU := Lib.hid (Dat.belowAll AU.out (b13))
    | replace AU := Lib.hid (Fr.belowAll AU.out (b13))
    | replace AU := Lib.hid (Own.belowAll AU.out (b13))
    | replace AU := Lib.hid (Grows.next AU.out (b13))
  have HU2 := Lib.hid (show u2.xs.map LFile.er = y.xs.map LFile.er from hu)
  have AU2 := Lib.hid huA
  clear b13 hu huA HY
  go_wp2_with fail
  refine (iTreeMerge_any u u2 w13' AU.out AU2.out).mono ?_
  rw [HU.out, HU2.out, HZ.out]
  rintro e w14 ⟨h, rfl, hh, hhA, -, b14⟩
  first
    | replace B := Lib.hid (Loc.At.belowAll B.out (b14))
    | replace B := Lib.hid (nextB B.out (b14))
    | replace B := Lib.hid (Boxed.keep B.out (b14))
    | replace B := Lib.hid (Dat.belowAll B.out (b14))
    | replace B := Lib.hid (Fr.belowAll B.out (b14))
    | replace B := Lib.hid (Own.belowAll B.out (b14))
    | replace B := Lib.hid (Grows.next B.out (b14))
  first
    | replace AV := Lib.hid (Loc.At.belowAll AV.out (b14))
    | replace AV := Lib.hid (nextB AV.out (b14))
    | replace AV := Lib.hid (Boxed.keep AV.out (b14))
    | replace AV := Lib.hid (Dat.belowAll AV.out (b14))
    | replace AV := Lib.hid (Fr.belowAll AV.out (b14))
    | replace AV := Lib.hid (Own.belowAll AV.out (b14))
    | replace AV := Lib.hid (Grows.next AV.out (b14))
  first
    | replace HGA := Lib.hid (Loc.At.belowAll HGA.out (b14))
    | replace HGA := Lib.hid (nextB HGA.out (b14))
    | replace HGA := Lib.hid (Boxed.keep HGA.out (b14))
    | replace HGA := Lib.hid (Dat.belowAll HGA.out (b14))
    | replace HGA := Lib.hid (Fr.belowAll HGA.out (b14))
    | replace HGA := Lib.hid (Own.belowAll HGA.out (b14))
    | replace HGA := Lib.hid (Grows.next HGA.out (b14))
  have HHE := Lib.hid (show h.xs.map LFile.er = Z from hh)
  have HHA := Lib.hid hhA
  clear b14 hh hhA AU AU2
  go_wp2_with fail
  refine (eqFileS_any h v w14 HHA.out AV.out).mono ?_
  rintro e w15 ⟨⟨q, rfl, hq⟩, b15⟩
  obtain rfl : q = true := hq.2 (HHE.out.trans HV.out.symm)
  first
    | replace B := Lib.hid (Loc.At.belowAll B.out (b15))
    | replace B := Lib.hid (nextB B.out (b15))
    | replace B := Lib.hid (Boxed.keep B.out (b15))
    | replace B := Lib.hid (Dat.belowAll B.out (b15))
    | replace B := Lib.hid (Fr.belowAll B.out (b15))
    | replace B := Lib.hid (Own.belowAll B.out (b15))
    | replace B := Lib.hid (Grows.next B.out (b15))
  first
    | replace HGA := Lib.hid (Loc.At.belowAll HGA.out (b15))
    | replace HGA := Lib.hid (nextB HGA.out (b15))
    | replace HGA := Lib.hid (Boxed.keep HGA.out (b15))
    | replace HGA := Lib.hid (Dat.belowAll HGA.out (b15))
    | replace HGA := Lib.hid (Fr.belowAll HGA.out (b15))
    | replace HGA := Lib.hid (Own.belowAll HGA.out (b15))
    | replace HGA := Lib.hid (Grows.next HGA.out (b15))
  clear b15 hq AV
  go_wp2_with fail
  refine (HH.out w15 HGA.out).mono ?_
  rintro e w16 ⟨rfl, b16⟩
  first
    | replace B := Lib.hid (Loc.At.belowAll B.out (b16))
    | replace B := Lib.hid (nextB B.out (b16))
    | replace B := Lib.hid (Boxed.keep B.out (b16))
    | replace B := Lib.hid (Dat.belowAll B.out (b16))
    | replace B := Lib.hid (Fr.belowAll B.out (b16))
    | replace B := Lib.hid (Own.belowAll B.out (b16))
    | replace B := Lib.hid (Grows.next B.out (b16))
  clear b16 HGA
  go_wp2_with fail
  go_ret
  exact ⟨rfl, B.out⟩
end Go.Proofs.YtdidkfadiaafiaaGreatDoor
