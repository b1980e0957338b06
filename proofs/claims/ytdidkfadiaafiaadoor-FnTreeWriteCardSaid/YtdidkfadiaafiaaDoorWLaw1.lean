/- The walk of FnTreeWrite. -/
import Derived.Test.YtdidkfadiaafiaaDoorWriteKit
namespace Go.Proofs.YtdidkfadiaafiaaDoor
open Go Go.RowKit

def nmsL : List ByteArray := [(⟨#[65]⟩ : ByteArray), ⟨#[66]⟩, ⟨#[67]⟩, ⟨#[68]⟩, ⟨#[69]⟩, ⟨#[70]⟩]
theorem nmsL_size : ∀ s ∈ nmsL, s.size ≤ 1000 := by
  intro s h
  simp only [nmsL, List.mem_cons, List.mem_nil_iff, or_false] at h
  rcases h with rfl | rfl | rfl | rfl | rfl | rfl <;> decide

set_option maxRecDepth 100000 in
set_option maxHeartbeats 4000000 in
theorem treeWrite_walk (x : Loc UInt8) (w : World) (hx : x.At w) :
    Calls Tryd.prog 3 #[x.val] w fun e w' => e = .returned (.bool true) ∧ Below w.heap.size w w' := by
  have h1 := hx.lenMax
  have HX0 := Lib.hid hx
  clear hx
  by_cases hbig : (1048576 : Int) < (x.xs.length : Int)
  · obtain ⟨xa, xc, xs⟩ := x
    simp only [Loc.val] at hbig ⊢
    go_enter Tryd.func3, Tryd.ntmps3
    go_wp2_with fail
    go_ret
    exact ⟨rfl, Below.refl _ _⟩
  have hc := Lib.hid (drawTreeWrite_any x w HX0.out)
  obtain ⟨ua, uc, us⟩ := x
  simp only [Loc.val] at hbig hc ⊢
  go_enter Tryd.func3, Tryd.ntmps3
  go_wp2_with fail
  refine hc.out.mono ?_
  rintro e w1 ⟨⟨ta, tc, ts⟩, site, n, g, s, rfl, h5, hs1, hs6, hnm, hst, hA, b1⟩
  have HNM := Lib.hid (show n ∈ sixN from hnm)
  have HN : Hid (n.size ≤ maxLen) := Lib.hid (by have := sixN_size HNM.out; simp only [maxLen]; omega)
  have HST : Hid (s.size ≤ maxLen) := Lib.hid (by simp only [maxLen]; omega)
  have HSI : Hid (-9223372036854775808 ≤ site ∧ site ≤ 9223372036854775807) := Lib.hid (by omega)
  have B := Lib.hid b1
  have AT := Lib.hid hA
  obtain ⟨T, hT⟩ : ∃ T, ts.map LFile.er = T := ⟨_, rfl⟩
  have HTE := Lib.hid hT
  obtain ⟨⟨X, ok⟩, hP⟩ : ∃ P, writeZ T site n g s = P := ⟨_, rfl⟩
  have HP := Lib.hid hP
  clear hc hnm hst hA b1 hP hT h5
  simp only [Loc.val]
  go_wp2_with fail
  refine (sTreeWrite_any ⟨ta, tc, ts⟩ site n g s w1 AT.out HSI.out HN.out HST.out).mono ?_
  rw [HTE.out, HP.out]
  rintro e w2 ⟨⟨va, vc, vs⟩, rfl, hv, hvA, b2⟩
  have HVE := Lib.hid hv
  have AV := Lib.hid hvA
  first
    | replace B := Lib.hid (Loc.At.belowAll B.out (b2))
    | replace B := Lib.hid (nextB B.out (b2))
    | replace B := Lib.hid (Boxed.keep B.out (b2))
    | replace B := Lib.hid (Dat.belowAll B.out (b2))
    | replace B := Lib.hid (Fr.belowAll B.out (b2))
    | replace B := Lib.hid (Own.belowAll B.out (b2))
    | replace B := Lib.hid (Grows.next B.out (b2))
  first
    | replace AT := Lib.hid (Loc.At.belowAll AT.out (b2))
    | replace AT := Lib.hid (nextB AT.out (b2))
    | replace AT := Lib.hid (Boxed.keep AT.out (b2))
    | replace AT := Lib.hid (Dat.belowAll AT.out (b2))
    | replace AT := Lib.hid (Fr.belowAll AT.out (b2))
    | replace AT := Lib.hid (Own.belowAll AT.out (b2))
    | replace AT := Lib.hid (Grows.next AT.out (b2))
  clear hv hvA b2
  simp only [Loc.val]
  go_wp2_with fail
  refine (iTreeWrite_any ⟨ta, tc, ts⟩ site n g s w2 AT.out HSI.out HN.out HST.out).mono ?_
  rw [HTE.out, HP.out]
  rintro e w3 ⟨⟨xa, xc, xs⟩, rfl, hx, hxA, -, b3⟩
  have HXE := Lib.hid (show xs.map LFile.er = X from hx)
  have AX := Lib.hid hxA
  first
    | replace B := Lib.hid (Loc.At.belowAll B.out (b3))
    | replace B := Lib.hid (nextB B.out (b3))
    | replace B := Lib.hid (Boxed.keep B.out (b3))
    | replace B := Lib.hid (Dat.belowAll B.out (b3))
    | replace B := Lib.hid (Fr.belowAll B.out (b3))
    | replace B := Lib.hid (Own.belowAll B.out (b3))
    | replace B := Lib.hid (Grows.next B.out (b3))
  first
    | replace AT := Lib.hid (Loc.At.belowAll AT.out (b3))
    | replace AT := Lib.hid (nextB AT.out (b3))
    | replace AT := Lib.hid (Boxed.keep AT.out (b3))
    | replace AT := Lib.hid (Dat.belowAll AT.out (b3))
    | replace AT := Lib.hid (Fr.belowAll AT.out (b3))
    | replace AT := Lib.hid (Own.belowAll AT.out (b3))
    | replace AT := Lib.hid (Grows.next AT.out (b3))
  first
    | replace AV := Lib.hid (Loc.At.belowAll AV.out (b3))
    | replace AV := Lib.hid (nextB AV.out (b3))
    | replace AV := Lib.hid (Boxed.keep AV.out (b3))
    | replace AV := Lib.hid (Dat.belowAll AV.out (b3))
    | replace AV := Lib.hid (Fr.belowAll AV.out (b3))
    | replace AV := Lib.hid (Own.belowAll AV.out (b3))
    | replace AV := Lib.hid (Grows.next AV.out (b3))
  clear hx hxA b3
  have hbb : (ok != ok) = false := by simp
  have hbe : (ok == ok) = true := by simp
  have HXV : Hid ((⟨xa, xc, xs⟩ : Loc LFile).xs.map LFile.er = (⟨va, vc, vs⟩ : Loc LFile).xs.map LFile.er) := Lib.hid (HXE.out.trans HVE.out.symm)
  simp only [Loc.val]
  go_wp2_with fail
  refine (lvTree_yes ⟨xa, xc, xs⟩ ⟨va, vc, vs⟩ w3 AX.out AV.out HXV.out).mono ?_
  rintro e w4 ⟨rfl, b4⟩
  first
    | replace B := Lib.hid (Loc.At.belowAll B.out (b4))
    | replace B := Lib.hid (nextB B.out (b4))
    | replace B := Lib.hid (Boxed.keep B.out (b4))
    | replace B := Lib.hid (Dat.belowAll B.out (b4))
    | replace B := Lib.hid (Fr.belowAll B.out (b4))
    | replace B := Lib.hid (Own.belowAll B.out (b4))
    | replace B := Lib.hid (Grows.next B.out (b4))
  first
    | replace AT := Lib.hid (Loc.At.belowAll AT.out (b4))
    | replace AT := Lib.hid (nextB AT.out (b4))
    | replace AT := Lib.hid (Boxed.keep AT.out (b4))
    | replace AT := Lib.hid (Dat.belowAll AT.out (b4))
    | replace AT := Lib.hid (Fr.belowAll AT.out (b4))
    | replace AT := Lib.hid (Own.belowAll AT.out (b4))
    | replace AT := Lib.hid (Grows.next AT.out (b4))
  first
    | replace AV := Lib.hid (Loc.At.belowAll AV.out (b4))
    | replace AV := Lib.hid (nextB AV.out (b4))
    | replace AV := Lib.hid (Boxed.keep AV.out (b4))
    | replace AV := Lib.hid (Dat.belowAll AV.out (b4))
    | replace AV := Lib.hid (Fr.belowAll AV.out (b4))
    | replace AV := Lib.hid (Own.belowAll AV.out (b4))
    | replace AV := Lib.hid (Grows.next AV.out (b4))
  first
    | replace AX := Lib.hid (Loc.At.belowAll AX.out (b4))
    | replace AX := Lib.hid (nextB AX.out (b4))
    | replace AX := Lib.hid (Boxed.keep AX.out (b4))
    | replace AX := Lib.hid (Dat.belowAll AX.out (b4))
    | replace AX := Lib.hid (Fr.belowAll AX.out (b4))
    | replace AX := Lib.hid (Own.belowAll AX.out (b4))
    | replace AX := Lib.hid (Grows.next AX.out (b4))
  clear b4
  cases ok with
  | false =>
    go_wp2_with fail
    refine (lvTree_yes ⟨xa, xc, xs⟩ ⟨va, vc, vs⟩ w4 AX.out AV.out HXV.out).mono ?_
    rintro e w9 ⟨rfl, b9⟩
    first
      | replace B := Lib.hid (Loc.At.belowAll B.out (b9))
      | replace B := Lib.hid (nextB B.out (b9))
      | replace B := Lib.hid (Boxed.keep B.out (b9))
      | replace B := Lib.hid (Dat.belowAll B.out (b9))
      | replace B := Lib.hid (Fr.belowAll B.out (b9))
      | replace B := Lib.hid (Own.belowAll B.out (b9))
      | replace B := Lib.hid (Grows.next B.out (b9))
    clear b9
    go_wp2_with fail
    go_ret
    exact ⟨rfl, B.out⟩
  | true =>
    have HWO := Lib.hid (writeZ_ok HP.out)
    have HT := Lib.hid HWO.out.1
    have HX := Lib.hid (show X = writeT T site n g s from HWO.out.2.2)
    have HXT := Lib.hid (show TreeOK X by rw [HX.out]; exact write_tree HT.out HWO.out.2.1)
    go_wp2_with fail
    refine (treeAt_ok ⟨ta, tc, ts⟩ n w4 AT.out HTE.out HT.out).mono ?_
    rintro e w5 ⟨⟨ya, yc, ys⟩, rfl, hy, hyA, -, b5⟩
    have HYE := Lib.hid (show ys.map LSib.er = atL n T from hy)
    have AY := Lib.hid hyA
    first
      | replace B := Lib.hid (Loc.At.belowAll B.out (b5))
      | replace B := Lib.hid (nextB B.out (b5))
      | replace B := Lib.hid (Boxed.keep B.out (b5))
      | replace B := Lib.hid (Dat.belowAll B.out (b5))
      | replace B := Lib.hid (Fr.belowAll B.out (b5))
      | replace B := Lib.hid (Own.belowAll B.out (b5))
      | replace B := Lib.hid (Grows.next B.out (b5))
    first
      | replace AT := Lib.hid (Loc.At.belowAll AT.out (b5))
      | replace AT := Lib.hid (nextB AT.out (b5))
      | replace AT := Lib.hid (Boxed.keep AT.out (b5))
      | replace AT := Lib.hid (Dat.belowAll AT.out (b5))
      | replace AT := Lib.hid (Fr.belowAll AT.out (b5))
      | replace AT := Lib.hid (Own.belowAll AT.out (b5))
      | replace AT := Lib.hid (Grows.next AT.out (b5))
    first
      | replace AX := Lib.hid (Loc.At.belowAll AX.out (b5))
      | replace AX := Lib.hid (nextB AX.out (b5))
      | replace AX := Lib.hid (Boxed.keep AX.out (b5))
      | replace AX := Lib.hid (Dat.belowAll AX.out (b5))
      | replace AX := Lib.hid (Fr.belowAll AX.out (b5))
      | replace AX := Lib.hid (Own.belowAll AX.out (b5))
      | replace AX := Lib.hid (Grows.next AX.out (b5))
    clear hy hyA b5
    simp only [Loc.val]
    have b6 : Below w5.heap.size w5 (w5.alloc (Obj.cells #[.int .i64 0, .int .i64 0, .int .i64 0] 3)) := (Below.refl _ _).alloc (Nat.le_refl _) _
    have HZA := Lib.hid (new_At (α := Int) w5 [0, 0, 0] #[.int .i64 0, .int .i64 0, .int .i64 0] 3 rfl (by simp [maxLen]) (fun _ _ => trivial))
    first
      | replace B := Lib.hid (Loc.At.belowAll B.out (b6))
      | replace B := Lib.hid (nextB B.out (b6))
      | replace B := Lib.hid (Boxed.keep B.out (b6))
      | replace B := Lib.hid (Dat.belowAll B.out (b6))
      | replace B := Lib.hid (Fr.belowAll B.out (b6))
      | replace B := Lib.hid (Own.belowAll B.out (b6))
      | replace B := Lib.hid (Grows.next B.out (b6))
    first
      | replace AT := Lib.hid (Loc.At.belowAll AT.out (b6))
      | replace AT := Lib.hid (nextB AT.out (b6))
      | replace AT := Lib.hid (Boxed.keep AT.out (b6))
      | replace AT := Lib.hid (Dat.belowAll AT.out (b6))
      | replace AT := Lib.hid (Fr.belowAll AT.out (b6))
      | replace AT := Lib.hid (Own.belowAll AT.out (b6))
      | replace AT := Lib.hid (Grows.next AT.out (b6))
    first
      | replace AX := Lib.hid (Loc.At.belowAll AX.out (b6))
      | replace AX := Lib.hid (nextB AX.out (b6))
      | replace AX := Lib.hid (Boxed.keep AX.out (b6))
      | replace AX := Lib.hid (Dat.belowAll AX.out (b6))
      | replace AX := Lib.hid (Fr.belowAll AX.out (b6))
      | replace AX := Lib.hid (Own.belowAll AX.out (b6))
      | replace AX := Lib.hid (Grows.next AX.out (b6))
    first
      | replace AY := Lib.hid (Loc.At.belowAll AY.out (b6))
      | replace AY := Lib.hid (nextB AY.out (b6))
      | replace AY := Lib.hid (Boxed.keep AY.out (b6))
      | replace AY := Lib.hid (Dat.belowAll AY.out (b6))
      | replace AY := Lib.hid (Fr.belowAll AY.out (b6))
      | replace AY := Lib.hid (Own.belowAll AY.out (b6))
      | replace AY := Lib.hid (Grows.next AY.out (b6))
    clear b6
    by_cases hy0 : ys.length = 0
    · have hz : decide ((0 : Int) < (ys.length : Int)) = false := decide_eq_false (by omega)
      have hz2 : decide (0 < ys.length) = false := decide_eq_false (by omega)
      have HNE : Hid ([0, 0, 0] = vvOf (atL n T)) := Lib.hid (by
        have : atL n T = [] := by rw [← HYE.out, List.eq_nil_of_length_eq_zero hy0]; rfl
        rw [this]; rfl)
      clear hy0
      go_wp2_with fail
      generalize w5.alloc (Obj.cells #[.int .i64 0, .int .i64 0, .int .i64 0] 3) = w6 at *
      refine (vvNext_any ⟨some ⟨w5.heap.size, 0, none⟩, 3, [0, 0, 0]⟩ site w6 HZA.out HSI.out).mono ?_
      rintro e w7 ⟨⟨qa, qc, qs⟩, rfl, hq, hqA, -, b7⟩
      simp only [HNE.out] at hq
      simp only [HNE.out, (writeOK_iff.1 HWO.out.2.1).1]
      have HQE := Lib.hid (show qs = nextV (vvOf (atL n T)) site from hq (writeOK_iff.1 HWO.out.2.1).1)
      have AQ := Lib.hid hqA
      first
        | replace B := Lib.hid (Loc.At.belowAll B.out (b7))
        | replace B := Lib.hid (nextB B.out (b7))
        | replace B := Lib.hid (Boxed.keep B.out (b7))
        | replace B := Lib.hid (Dat.belowAll B.out (b7))
        | replace B := Lib.hid (Fr.belowAll B.out (b7))
        | replace B := Lib.hid (Own.belowAll B.out (b7))
        | replace B := Lib.hid (Grows.next B.out (b7))
      first
        | replace AT := Lib.hid (Loc.At.belowAll AT.out (b7))
        | replace AT := Lib.hid (nextB AT.out (b7))
        | replace AT := Lib.hid (Boxed.keep AT.out (b7))
        | replace AT := Lib.hid (Dat.belowAll AT.out (b7))
        | replace AT := Lib.hid (Fr.belowAll AT.out (b7))
        | replace AT := Lib.hid (Own.belowAll AT.out (b7))
        | replace AT := Lib.hid (Grows.next AT.out (b7))
      first
        | replace AX := Lib.hid (Loc.At.belowAll AX.out (b7))
        | replace AX := Lib.hid (nextB AX.out (b7))
        | replace AX := Lib.hid (Boxed.keep AX.out (b7))
        | replace AX := Lib.hid (Dat.belowAll AX.out (b7))
        | replace AX := Lib.hid (Fr.belowAll AX.out (b7))
        | replace AX := Lib.hid (Own.belowAll AX.out (b7))
        | replace AX := Lib.hid (Grows.next AX.out (b7))
      clear hq hqA b7
      simp only [Loc.val]
      have b8 : Below w7.heap.size w7 (w7.alloc (Obj.cells #[.string ⟨#[65]⟩, .string ⟨#[66]⟩, .string ⟨#[67]⟩, .string ⟨#[68]⟩, .string ⟨#[69]⟩, .string ⟨#[70]⟩] 9)) := (Below.refl _ _).alloc (Nat.le_refl _) _
      have HLA := Lib.hid (strs_At (xs := nmsL) (n := 6) (heap_alloc_new w7 (Obj.cells #[.string ⟨#[65]⟩, .string ⟨#[66]⟩, .string ⟨#[67]⟩, .string ⟨#[68]⟩, .string ⟨#[69]⟩, .string ⟨#[70]⟩] 9)) rfl rfl (by decide) nmsL_size)
      first
        | replace B := Lib.hid (Loc.At.belowAll B.out (b8))
        | replace B := Lib.hid (nextB B.out (b8))
        | replace B := Lib.hid (Boxed.keep B.out (b8))
        | replace B := Lib.hid (Dat.belowAll B.out (b8))
        | replace B := Lib.hid (Fr.belowAll B.out (b8))
        | replace B := Lib.hid (Own.belowAll B.out (b8))
        | replace B := Lib.hid (Grows.next B.out (b8))
      first
        | replace AT := Lib.hid (Loc.At.belowAll AT.out (b8))
        | replace AT := Lib.hid (nextB AT.out (b8))
        | replace AT := Lib.hid (Boxed.keep AT.out (b8))
        | replace AT := Lib.hid (Dat.belowAll AT.out (b8))
        | replace AT := Lib.hid (Fr.belowAll AT.out (b8))
        | replace AT := Lib.hid (Own.belowAll AT.out (b8))
        | replace AT := Lib.hid (Grows.next AT.out (b8))
      first
        | replace AX := Lib.hid (Loc.At.belowAll AX.out (b8))
        | replace AX := Lib.hid (nextB AX.out (b8))
        | replace AX := Lib.hid (Boxed.keep AX.out (b8))
        | replace AX := Lib.hid (Dat.belowAll AX.out (b8))
        | replace AX := Lib.hid (Fr.belowAll AX.out (b8))
        | replace AX := Lib.hid (Own.belowAll AX.out (b8))
        | replace AX := Lib.hid (Grows.next AX.out (b8))
      first
        | replace AQ := Lib.hid (Loc.At.belowAll AQ.out (b8))
        | replace AQ := Lib.hid (nextB AQ.out (b8))
        | replace AQ := Lib.hid (Boxed.keep AQ.out (b8))
        | replace AQ := Lib.hid (Dat.belowAll AQ.out (b8))
        | replace AQ := Lib.hid (Fr.belowAll AQ.out (b8))
        | replace AQ := Lib.hid (Own.belowAll AQ.out (b8))
        | replace AQ := Lib.hid (Grows.next AQ.out (b8))
      clear b8
      go_wp2_with fail
      generalize w7.alloc (Obj.cells #[.string ⟨#[65]⟩, .string ⟨#[66]⟩, .string ⟨#[67]⟩, .string ⟨#[68]⟩, .string ⟨#[69]⟩, .string ⟨#[70]⟩] 9) = w8 at *
      generalize w7.heap.size = N at *
      go_loopw [84] (fun i wr => ∃ k : Nat, k ≤ 6 ∧ i = .int .i64 k ∧ Below w8.heap.size w8 wr) (fun i _ => 6 - (intOf i).toNat)
      case atStart => exact ⟨0, Nat.zero_le _, rfl, Below.refl _ _⟩
      case round =>
        obtain ⟨k, hk, rfl, hb⟩ := hrel
        have HB := Lib.hid hb
        clear hb
        by_cases hlt : k < 6
        · obtain ⟨m, hm⟩ : ∃ m, nmsL[k]'hlt = m := ⟨_, rfl⟩
          have cm : wr.cell? ⟨N, k, none⟩ = some (.string m) := by
            have := (HLA.out.belowAll HB.out).cellK (b := N) (o := 0) rfl (i := k) hlt (j := 0) (v := .string (nmsL[k]'hlt)) rfl
            rw [hm] at this
            simpa [Dat.k] using this
          clear hm
          by_cases he : m = n
          · have he1 : (m.toList == n.toList) = true := by simp [he]
            clear he
            go_wp2_with fail
            go_roundw
            case rel => exact ⟨k + 1, by omega, by go_num, HB.out⟩
            case measure => simp [intOf]; omega
          · have he1 : (m.toList == n.toList) = false := by rw [beq_eq_false_iff_ne]; exact fun h => he (toList_inj.1 h)
            have HNE2 := Lib.hid he
            clear he
            go_wp2_with fail
            refine (treeAt_ok ⟨xa, xc, xs⟩ m wr (AX.out.belowAll HB.out) HXE.out HXT.out).mono ?_
            rintro e wa ⟨p, rfl, hp, hpA, -, ba⟩
            have HPE := Lib.hid hp
            have AP := Lib.hid hpA
            have HB2 := Lib.hid (nextB HB.out ba)
            clear hp hpA ba
            go_wp2_with fail
            refine (treeAt_ok ⟨ta, tc, ts⟩ m wa (AT.out.belowAll HB2.out) HTE.out HT.out).mono ?_
            rintro e wb ⟨q, rfl, hq, hqA, -, bb⟩
            have HQ2 := Lib.hid hq
            have AQ2 := Lib.hid hqA
            have HB3 := Lib.hid (nextB HB2.out bb)
            first
              | replace AP := Lib.hid (Loc.At.belowAll AP.out (bb))
              | replace AP := Lib.hid (nextB AP.out (bb))
              | replace AP := Lib.hid (Boxed.keep AP.out (bb))
              | replace AP := Lib.hid (Dat.belowAll AP.out (bb))
              | replace AP := Lib.hid (Fr.belowAll AP.out (bb))
              | replace AP := Lib.hid (Own.belowAll AP.out (bb))
              | replace AP := Lib.hid (Grows.next AP.out (bb))
            clear hq hqA bb
            go_wp2_with fail
            refine (lvSibs_yes p q wb AP.out AQ2.out (by rw [HPE.out, HQ2.out, HX.out, write_at site n g s HT.out m, if_neg (fun h => HNE2.out h.symm)])).mono ?_
            rintro e wc ⟨rfl, bc⟩
            have HB4 := Lib.hid (nextB HB3.out bc)
            clear bc
            go_wp2_with fail
            go_roundw
            case rel => exact ⟨k + 1, by omega, by go_num, HB4.out⟩
            case measure => simp [intOf]; omega
        · have hk6 : k = 6 := by omega
          subst hk6
          have HBF := Lib.hid (nextB B.out HB.out)
          first
            | replace AX := Lib.hid (Loc.At.belowAll AX.out (HB.out))
            | replace AX := Lib.hid (nextB AX.out (HB.out))
            | replace AX := Lib.hid (Boxed.keep AX.out (HB.out))
            | replace AX := Lib.hid (Dat.belowAll AX.out (HB.out))
            | replace AX := Lib.hid (Fr.belowAll AX.out (HB.out))
            | replace AX := Lib.hid (Own.belowAll AX.out (HB.out))
            | replace AX := Lib.hid (Grows.next AX.out (HB.out))
          first
            | replace AQ := Lib.hid (Loc.At.belowAll AQ.out (HB.out))
            | replace AQ := Lib.hid (nextB AQ.out (HB.out))
            | replace AQ := Lib.hid (Boxed.keep AQ.out (HB.out))
            | replace AQ := Lib.hid (Dat.belowAll AQ.out (HB.out))
            | replace AQ := Lib.hid (Fr.belowAll AQ.out (HB.out))
            | replace AQ := Lib.hid (Own.belowAll AQ.out (HB.out))
            | replace AQ := Lib.hid (Grows.next AQ.out (HB.out))
          go_wp2_with fail
          refine (treeAt_ok ⟨xa, xc, xs⟩ n wr AX.out HXE.out HXT.out).mono ?_
          rintro e wa ⟨p, rfl, hp, hpA, -, ba⟩
          have HPE := Lib.hid hp
          have AP := Lib.hid hpA
          first
            | replace HBF := Lib.hid (Loc.At.belowAll HBF.out (ba))
            | replace HBF := Lib.hid (nextB HBF.out (ba))
            | replace HBF := Lib.hid (Boxed.keep HBF.out (ba))
            | replace HBF := Lib.hid (Dat.belowAll HBF.out (ba))
            | replace HBF := Lib.hid (Fr.belowAll HBF.out (ba))
            | replace HBF := Lib.hid (Own.belowAll HBF.out (ba))
            | replace HBF := Lib.hid (Grows.next HBF.out (ba))
          first
            | replace AX := Lib.hid (Loc.At.belowAll AX.out (ba))
            | replace AX := Lib.hid (nextB AX.out (ba))
            | replace AX := Lib.hid (Boxed.keep AX.out (ba))
            | replace AX := Lib.hid (Dat.belowAll AX.out (ba))
            | replace AX := Lib.hid (Fr.belowAll AX.out (ba))
            | replace AX := Lib.hid (Own.belowAll AX.out (ba))
            | replace AX := Lib.hid (Grows.next AX.out (ba))
          first
            | replace AQ := Lib.hid (Loc.At.belowAll AQ.out (ba))
            | replace AQ := Lib.hid (nextB AQ.out (ba))
            | replace AQ := Lib.hid (Boxed.keep AQ.out (ba))
            | replace AQ := Lib.hid (Dat.belowAll AQ.out (ba))
            | replace AQ := Lib.hid (Fr.belowAll AQ.out (ba))
            | replace AQ := Lib.hid (Own.belowAll AQ.out (ba))
            | replace AQ := Lib.hid (Grows.next AQ.out (ba))
          clear hp hpA ba
          have bb : Below wa.heap.size wa (wa.alloc (Obj.cells #[.slice qa qs.length qc, .bool g, .string s] 38)) := (Below.refl _ _).alloc (Nat.le_refl _) _
          have HNA := Lib.hid (new_At (α := LSib) wa [(⟨⟨qa, qc, qs⟩, g, s⟩ : LSib)] #[.slice qa qs.length qc, .bool g, .string s] 38 rfl (by simp [maxLen]) (fun z hz => by rw [List.mem_singleton.1 hz]; exact ⟨AQ.out, HST.out⟩))
          first
            | replace HBF := Lib.hid (Loc.At.belowAll HBF.out (bb))
            | replace HBF := Lib.hid (nextB HBF.out (bb))
            | replace HBF := Lib.hid (Boxed.keep HBF.out (bb))
            | replace HBF := Lib.hid (Dat.belowAll HBF.out (bb))
            | replace HBF := Lib.hid (Fr.belowAll HBF.out (bb))
            | replace HBF := Lib.hid (Own.belowAll HBF.out (bb))
            | replace HBF := Lib.hid (Grows.next HBF.out (bb))
          first
            | replace AX := Lib.hid (Loc.At.belowAll AX.out (bb))
            | replace AX := Lib.hid (nextB AX.out (bb))
            | replace AX := Lib.hid (Boxed.keep AX.out (bb))
            | replace AX := Lib.hid (Dat.belowAll AX.out (bb))
            | replace AX := Lib.hid (Fr.belowAll AX.out (bb))
            | replace AX := Lib.hid (Own.belowAll AX.out (bb))
            | replace AX := Lib.hid (Grows.next AX.out (bb))
          first
            | replace AP := Lib.hid (Loc.At.belowAll AP.out (bb))
            | replace AP := Lib.hid (nextB AP.out (bb))
            | replace AP := Lib.hid (Boxed.keep AP.out (bb))
            | replace AP := Lib.hid (Dat.belowAll AP.out (bb))
            | replace AP := Lib.hid (Fr.belowAll AP.out (bb))
            | replace AP := Lib.hid (Own.belowAll AP.out (bb))
            | replace AP := Lib.hid (Grows.next AP.out (bb))
          clear bb
          go_wp2_with fail
          refine (lvSibs_yes p ⟨some ⟨wa.heap.size, 0, none⟩, 1, [(⟨⟨qa, qc, qs⟩, g, s⟩ : LSib)]⟩ _ AP.out HNA.out (by rw [HPE.out, HX.out, write_at site n g s HT.out n, if_pos rfl]; simp only [List.map_cons, List.map_nil, LSib.er, newSib, HQE.out])).mono ?_
          rintro e wc ⟨rfl, bc⟩
          first
            | replace HBF := Lib.hid (Loc.At.belowAll HBF.out (bc))
            | replace HBF := Lib.hid (nextB HBF.out (bc))
            | replace HBF := Lib.hid (Boxed.keep HBF.out (bc))
            | replace HBF := Lib.hid (Dat.belowAll HBF.out (bc))
            | replace HBF := Lib.hid (Fr.belowAll HBF.out (bc))
            | replace HBF := Lib.hid (Own.belowAll HBF.out (bc))
            | replace HBF := Lib.hid (Grows.next HBF.out (bc))
          first
            | replace AX := Lib.hid (Loc.At.belowAll AX.out (bc))
            | replace AX := Lib.hid (nextB AX.out (bc))
            | replace AX := Lib.hid (Boxed.keep AX.out (bc))
            | replace AX := Lib.hid (Dat.belowAll AX.out (bc))
            | replace AX := Lib.hid (Fr.belowAll AX.out (bc))
            | replace AX := Lib.hid (Own.belowAll AX.out (bc))
            | replace AX := Lib.hid (Grows.next AX.out (bc))
          clear bc
          go_wp2_with fail
          refine (iTreeOk_any' ⟨xa, xc, xs⟩ wc AX.out).mono ?_
          rw [show (⟨xa, xc, xs⟩ : Loc LFile).xs.map LFile.er = X from HXE.out, treeB_true HXT.out]
          rintro e wd ⟨rfl, bd⟩
          first
            | replace HBF := Lib.hid (Loc.At.belowAll HBF.out (bd))
            | replace HBF := Lib.hid (nextB HBF.out (bd))
            | replace HBF := Lib.hid (Boxed.keep HBF.out (bd))
            | replace HBF := Lib.hid (Dat.belowAll HBF.out (bd))
            | replace HBF := Lib.hid (Fr.belowAll HBF.out (bd))
            | replace HBF := Lib.hid (Own.belowAll HBF.out (bd))
            | replace HBF := Lib.hid (Grows.next HBF.out (bd))
          clear bd
          go_wp2_with fail
          go_ret
          exact ⟨rfl, HBF.out⟩
    · have hz : decide ((0 : Int) < (ys.length : Int)) = true := decide_eq_true (by omega)
      have hz2 : decide (0 < ys.length) = true := decide_eq_true (by omega)
      have HSO : Hid (SibsOK (ys.map LSib.er)) := Lib.hid (by
        rw [HYE.out]
        refine (atL_ok HT.out n).resolve_left (fun h => hy0 ?_)
        have h2 := HYE.out
        rw [h] at h2
        simpa using h2)
      clear hy0
      go_wp2_with fail
      generalize w5.alloc (Obj.cells #[.int .i64 0, .int .i64 0, .int .i64 0] 3) = w6 at *
      refine (iSibsVv_any ⟨ya, yc, ys⟩ w6 AY.out HSO.out).mono ?_
      rintro e wv ⟨⟨na, nc, ns⟩, rfl, hn, hnA, -, bv⟩
      have HNE := Lib.hid (show ns = vvOf (atL n T) by rw [← HYE.out]; exact hn)
      have AN := Lib.hid hnA
      first
        | replace B := Lib.hid (Loc.At.belowAll B.out (bv))
        | replace B := Lib.hid (nextB B.out (bv))
        | replace B := Lib.hid (Boxed.keep B.out (bv))
        | replace B := Lib.hid (Dat.belowAll B.out (bv))
        | replace B := Lib.hid (Fr.belowAll B.out (bv))
        | replace B := Lib.hid (Own.belowAll B.out (bv))
        | replace B := Lib.hid (Grows.next B.out (bv))
      first
        | replace AT := Lib.hid (Loc.At.belowAll AT.out (bv))
        | replace AT := Lib.hid (nextB AT.out (bv))
        | replace AT := Lib.hid (Boxed.keep AT.out (bv))
        | replace AT := Lib.hid (Dat.belowAll AT.out (bv))
        | replace AT := Lib.hid (Fr.belowAll AT.out (bv))
        | replace AT := Lib.hid (Own.belowAll AT.out (bv))
        | replace AT := Lib.hid (Grows.next AT.out (bv))
      first
        | replace AX := Lib.hid (Loc.At.belowAll AX.out (bv))
        | replace AX := Lib.hid (nextB AX.out (bv))
        | replace AX := Lib.hid (Boxed.keep AX.out (bv))
        | replace AX := Lib.hid (Dat.belowAll AX.out (bv))
        | replace AX := Lib.hid (Fr.belowAll AX.out (bv))
        | replace AX := Lib.hid (Own.belowAll AX.out (bv))
        | replace AX := Lib.hid (Grows.next AX.out (bv))
      clear hn hnA bv
      simp only [Loc.val]
      go_wp2_with fail
      refine (vvNext_any ⟨na, nc, ns⟩ site wv AN.out HSI.out).mono ?_
      rintro e w7 ⟨⟨qa, qc, qs⟩, rfl, hq, hqA, -, b7⟩
      simp only [HNE.out] at hq
      simp only [HNE.out, (writeOK_iff.1 HWO.out.2.1).1]
      have HQE := Lib.hid (show qs = nextV (vvOf (atL n T)) site from hq (writeOK_iff.1 HWO.out.2.1).1)
      have AQ := Lib.hid hqA
      first
        | replace B := Lib.hid (Loc.At.belowAll B.out (b7))
        | replace B := Lib.hid (nextB B.out (b7))
        | replace B := Lib.hid (Boxed.keep B.out (b7))
        | replace B := Lib.hid (Dat.belowAll B.out (b7))
        | replace B := Lib.hid (Fr.belowAll B.out (b7))
        | replace B := Lib.hid (Own.belowAll B.out (b7))
        | replace B := Lib.hid (Grows.next B.out (b7))
      first
        | replace AT := Lib.hid (Loc.At.belowAll AT.out (b7))
        | replace AT := Lib.hid (nextB AT.out (b7))
        | replace AT := Lib.hid (Boxed.keep AT.out (b7))
        | replace AT := Lib.hid (Dat.belowAll AT.out (b7))
        | replace AT := Lib.hid (Fr.belowAll AT.out (b7))
        | replace AT := Lib.hid (Own.belowAll AT.out (b7))
        | replace AT := Lib.hid (Grows.next AT.out (b7))
      first
        | replace AX := Lib.hid (Loc.At.belowAll AX.out (b7))
        | replace AX := Lib.hid (nextB AX.out (b7))
        | replace AX := Lib.hid (Boxed.keep AX.out (b7))
        | replace AX := Lib.hid (Dat.belowAll AX.out (b7))
        | replace AX := Lib.hid (Fr.belowAll AX.out (b7))
        | replace AX := Lib.hid (Own.belowAll AX.out (b7))
        | replace AX := Lib.hid (Grows.next AX.out (b7))
      clear hq hqA b7
      simp only [Loc.val]
      have b8 : Below w7.heap.size w7 (w7.alloc (Obj.cells #[.string ⟨#[65]⟩, .string ⟨#[66]⟩, .string ⟨#[67]⟩, .string ⟨#[68]⟩, .string ⟨#[69]⟩, .string ⟨#[70]⟩] 9)) := (Below.refl _ _).alloc (Nat.le_refl _) _
      have HLA := Lib.hid (strs_At (xs := nmsL) (n := 6) (heap_alloc_new w7 (Obj.cells #[.string ⟨#[65]⟩, .string ⟨#[66]⟩, .string ⟨#[67]⟩, .string ⟨#[68]⟩, .string ⟨#[69]⟩, .string ⟨#[70]⟩] 9)) rfl rfl (by decide) nmsL_size)
      first
        | replace B := Lib.hid (Loc.At.belowAll B.out (b8))
        | replace B := Lib.hid (nextB B.out (b8))
        | replace B := Lib.hid (Boxed.keep B.out (b8))
        | replace B := Lib.hid (Dat.belowAll B.out (b8))
        | replace B := Lib.hid (Fr.belowAll B.out (b8))
        | replace B := Lib.hid (Own.belowAll B.out (b8))
        | replace B := Lib.hid (Grows.next B.out (b8))
      first
        | replace AT := Lib.hid (Loc.At.belowAll AT.out (b8))
        | replace AT := Lib.hid (nextB AT.out (b8))
        | replace AT := Lib.hid (Boxed.keep AT.out (b8))
        | replace AT := Lib.hid (Dat.belowAll AT.out (b8))
        | replace AT := Lib.hid (Fr.belowAll AT.out (b8))
        | replace AT := Lib.hid (Own.belowAll AT.out (b8))
        | replace AT := Lib.hid (Grows.next AT.out (b8))
      first
        | replace AX := Lib.hid (Loc.At.belowAll AX.out (b8))
        | replace AX := Lib.hid (nextB AX.out (b8))
        | replace AX := Lib.hid (Boxed.keep AX.out (b8))
        | replace AX := Lib.hid (Dat.belowAll AX.out (b8))
        | replace AX := Lib.hid (Fr.belowAll AX.out (b8))
        | replace AX := Lib.hid (Own.belowAll AX.out (b8))
        | replace AX := Lib.hid (Grows.next AX.out (b8))
      first
        | replace AQ := Lib.hid (Loc.At.belowAll AQ.out (b8))
        | replace AQ := Lib.hid (nextB AQ.out (b8))
        | replace AQ := Lib.hid (Boxed.keep AQ.out (b8))
        | replace AQ := Lib.hid (Dat.belowAll AQ.out (b8))
        | replace AQ := Lib.hid (Fr.belowAll AQ.out (b8))
        | replace AQ := Lib.hid (Own.belowAll AQ.out (b8))
        | replace AQ := Lib.hid (Grows.next AQ.out (b8))
      clear b8
      go_wp2_with fail
      generalize w7.alloc (Obj.cells #[.string ⟨#[65]⟩, .string ⟨#[66]⟩, .string ⟨#[67]⟩, .string ⟨#[68]⟩, .string ⟨#[69]⟩, .string ⟨#[70]⟩] 9) = w8 at *
      generalize w7.heap.size = N at *
      go_loopw [84] (fun i wr => ∃ k : Nat, k ≤ 6 ∧ i = .int .i64 k ∧ Below w8.heap.size w8 wr) (fun i _ => 6 - (intOf i).toNat)
      case atStart => exact ⟨0, Nat.zero_le _, rfl, Below.refl _ _⟩
      case round =>
        obtain ⟨k, hk, rfl, hb⟩ := hrel
        have HB := Lib.hid hb
        clear hb
        by_cases hlt : k < 6
        · obtain ⟨m, hm⟩ : ∃ m, nmsL[k]'hlt = m := ⟨_, rfl⟩
          have cm : wr.cell? ⟨N, k, none⟩ = some (.string m) := by
            have := (HLA.out.belowAll HB.out).cellK (b := N) (o := 0) rfl (i := k) hlt (j := 0) (v := .string (nmsL[k]'hlt)) rfl
            rw [hm] at this
            simpa [Dat.k] using this
          clear hm
          by_cases he : m = n
          · have he1 : (m.toList == n.toList) = true := by simp [he]
            clear he
            go_wp2_with fail
            go_roundw
            case rel => exact ⟨k + 1, by omega, by go_num, HB.out⟩
            case measure => simp [intOf]; omega
          · have he1 : (m.toList == n.toList) = false := by rw [beq_eq_false_iff_ne]; exact fun h => he (toList_inj.1 h)
            have HNE2 := Lib.hid he
            clear he
            go_wp2_with fail
            refine (treeAt_ok ⟨xa, xc, xs⟩ m wr (AX.out.belowAll HB.out) HXE.out HXT.out).mono ?_
            rintro e wa ⟨p, rfl, hp, hpA, -, ba⟩
            have HPE := Lib.hid hp
            have AP := Lib.hid hpA
            have HB2 := Lib.hid (nextB HB.out ba)
            clear hp hpA ba
            go_wp2_with fail
            refine (treeAt_ok ⟨ta, tc, ts⟩ m wa (AT.out.belowAll HB2.out) HTE.out HT.out).mono ?_
            rintro e wb ⟨q, rfl, hq, hqA, -, bb⟩
            have HQ2 := Lib.hid hq
            have AQ2 := Lib.hid hqA
            have HB3 := Lib.hid (nextB HB2.out bb)
            first
              | replace AP := Lib.hid (Loc.At.belowAll AP.out (bb))
              | replace AP := Lib.hid (nextB AP.out (bb))
              | replace AP := Lib.hid (Boxed.keep AP.out (bb))
              | replace AP := Lib.hid (Dat.belowAll AP.out (bb))
              | replace AP := Lib.hid (Fr.belowAll AP.out (bb))
              | replace AP := Lib.hid (Own.belowAll AP.out (bb))
              | replace AP := Lib.hid (Grows.next AP.out (bb))
            clear hq hqA bb
            go_wp2_with fail
            refine (lvSibs_yes p q wb AP.out AQ2.out (by rw [HPE.out, HQ2.out, HX.out, write_at site n g s HT.out m, if_neg (fun h => HNE2.out h.symm)])).mono ?_
            rintro e wc ⟨rfl, bc⟩
            have HB4 := Lib.hid (nextB HB3.out bc)
            clear bc
            go_wp2_with fail
            go_roundw
            case rel => exact ⟨k + 1, by omega, by go_num, HB4.out⟩
            case measure => simp [intOf]; omega
        · have hk6 : k = 6 := by omega
          subst hk6
          have HBF := Lib.hid (nextB B.out HB.out)
          first
            | replace AX := Lib.hid (Loc.At.belowAll AX.out (HB.out))
            | replace AX := Lib.hid (nextB AX.out (HB.out))
            | replace AX := Lib.hid (Boxed.keep AX.out (HB.out))
            | replace AX := Lib.hid (Dat.belowAll AX.out (HB.out))
            | replace AX := Lib.hid (Fr.belowAll AX.out (HB.out))
            | replace AX := Lib.hid (Own.belowAll AX.out (HB.out))
            | replace AX := Lib.hid (Grows.next AX.out (HB.out))
          first
            | replace AQ := Lib.hid (Loc.At.belowAll AQ.out (HB.out))
            | replace AQ := Lib.hid (nextB AQ.out (HB.out))
            | replace AQ := Lib.hid (Boxed.keep AQ.out (HB.out))
            | replace AQ := Lib.hid (Dat.belowAll AQ.out (HB.out))
            | replace AQ := Lib.hid (Fr.belowAll AQ.out (HB.out))
            | replace AQ := Lib.hid (Own.belowAll AQ.out (HB.out))
            | replace AQ := Lib.hid (Grows.next AQ.out (HB.out))
          go_wp2_with fail
          refine (treeAt_ok ⟨xa, xc, xs⟩ n wr AX.out HXE.out HXT.out).mono ?_
          rintro e wa ⟨p, rfl, hp, hpA, -, ba⟩
          have HPE := Lib.hid hp
          have AP := Lib.hid hpA
          first
            | replace HBF := Lib.hid (Loc.At.belowAll HBF.out (ba))
            | replace HBF := Lib.hid (nextB HBF.out (ba))
            | replace HBF := Lib.hid (Boxed.keep HBF.out (ba))
            | replace HBF := Lib.hid (Dat.belowAll HBF.out (ba))
            | replace HBF := Lib.hid (Fr.belowAll HBF.out (ba))
            | replace HBF := Lib.hid (Own.belowAll HBF.out (ba))
            | replace HBF := Lib.hid (Grows.next HBF.out (ba))
          first
            | replace AX := Lib.hid (Loc.At.belowAll AX.out (ba))
            | replace AX := Lib.hid (nextB AX.out (ba))
            | replace AX := Lib.hid (Boxed.keep AX.out (ba))
            | replace AX := Lib.hid (Dat.belowAll AX.out (ba))
            | replace AX := Lib.hid (Fr.belowAll AX.out (ba))
            | replace AX := Lib.hid (Own.belowAll AX.out (ba))
            | replace AX := Lib.hid (Grows.next AX.out (ba))
          first
            | replace AQ := Lib.hid (Loc.At.belowAll AQ.out (ba))
            | replace AQ := Lib.hid (nextB AQ.out (ba))
            | replace AQ := Lib.hid (Boxed.keep AQ.out (ba))
            | replace AQ := Lib.hid (Dat.belowAll AQ.out (ba))
            | replace AQ := Lib.hid (Fr.belowAll AQ.out (ba))
            | replace AQ := Lib.hid (Own.belowAll AQ.out (ba))
            | replace AQ := Lib.hid (Grows.next AQ.out (ba))
          clear hp hpA ba
          have bb : Below wa.heap.size wa (wa.alloc (Obj.cells #[.slice qa qs.length qc, .bool g, .string s] 38)) := (Below.refl _ _).alloc (Nat.le_refl _) _
          have HNA := Lib.hid (new_At (α := LSib) wa [(⟨⟨qa, qc, qs⟩, g, s⟩ : LSib)] #[.slice qa qs.length qc, .bool g, .string s] 38 rfl (by simp [maxLen]) (fun z hz => by rw [List.mem_singleton.1 hz]; exact ⟨AQ.out, HST.out⟩))
          first
            | replace HBF := Lib.hid (Loc.At.belowAll HBF.out (bb))
            | replace HBF := Lib.hid (nextB HBF.out (bb))
            | replace HBF := Lib.hid (Boxed.keep HBF.out (bb))
            | replace HBF := Lib.hid (Dat.belowAll HBF.out (bb))
            | replace HBF := Lib.hid (Fr.belowAll HBF.out (bb))
            | replace HBF := Lib.hid (Own.belowAll HBF.out (bb))
            | replace HBF := Lib.hid (Grows.next HBF.out (bb))
          first
            | replace AX := Lib.hid (Loc.At.belowAll AX.out (bb))
            | replace AX := Lib.hid (nextB AX.out (bb))
            | replace AX := Lib.hid (Boxed.keep AX.out (bb))
            | replace AX := Lib.hid (Dat.belowAll AX.out (bb))
            | replace AX := Lib.hid (Fr.belowAll AX.out (bb))
            | replace AX := Lib.hid (Own.belowAll AX.out (bb))
            | replace AX := Lib.hid (Grows.next AX.out (bb))
          first
            | replace AP := Lib.hid (Loc.At.belowAll AP.out (bb))
            | replace AP := Lib.hid (nextB AP.out (bb))
            | replace AP := Lib.hid (Boxed.keep AP.out (bb))
            | replace AP := Lib.hid (Dat.belowAll AP.out (bb))
            | replace AP := Lib.hid (Fr.belowAll AP.out (bb))
            | replace AP := Lib.hid (Own.belowAll AP.out (bb))
            | replace AP := Lib.hid (Grows.next AP.out (bb))
          clear bb
          go_wp2_with fail
          refine (lvSibs_yes p ⟨some ⟨wa.heap.size, 0, none⟩, 1, [(⟨⟨qa, qc, qs⟩, g, s⟩ : LSib)]⟩ _ AP.out HNA.out (by rw [HPE.out, HX.out, write_at site n g s HT.out n, if_pos rfl]; simp only [List.map_cons, List.map_nil, LSib.er, newSib, HQE.out])).mono ?_
          rintro e wc ⟨rfl, bc⟩
          first
            | replace HBF := Lib.hid (Loc.At.belowAll HBF.out (bc))
            | replace HBF := Lib.hid (nextB HBF.out (bc))
            | replace HBF := Lib.hid (Boxed.keep HBF.out (bc))
            | replace HBF := Lib.hid (Dat.belowAll HBF.out (bc))
            | replace HBF := Lib.hid (Fr.belowAll HBF.out (bc))
            | replace HBF := Lib.hid (Own.belowAll HBF.out (bc))
            | replace HBF := Lib.hid (Grows.next HBF.out (bc))
          first
            | replace AX := Lib.hid (Loc.At.belowAll AX.out (bc))
            | replace AX := Lib.hid (nextB AX.out (bc))
            | replace AX := Lib.hid (Boxed.keep AX.out (bc))
            | replace AX := Lib.hid (Dat.belowAll AX.out (bc))
            | replace AX := Lib.hid (Fr.belowAll AX.out (bc))
            | replace AX := Lib.hid (Own.belowAll AX.out (bc))
            | replace AX := Lib.hid (Grows.next AX.out (bc))
          clear bc
          go_wp2_with fail
          refine (iTreeOk_any' ⟨xa, xc, xs⟩ wc AX.out).mono ?_
          rw [show (⟨xa, xc, xs⟩ : Loc LFile).xs.map LFile.er = X from HXE.out, treeB_true HXT.out]
          rintro e wd ⟨rfl, bd⟩
          first
            | replace HBF := Lib.hid (Loc.At.belowAll HBF.out (bd))
            | replace HBF := Lib.hid (nextB HBF.out (bd))
            | replace HBF := Lib.hid (Boxed.keep HBF.out (bd))
            | replace HBF := Lib.hid (Dat.belowAll HBF.out (bd))
            | replace HBF := Lib.hid (Fr.belowAll HBF.out (bd))
            | replace HBF := Lib.hid (Own.belowAll HBF.out (bd))
            | replace HBF := Lib.hid (Grows.next HBF.out (bd))
          clear bd
          go_wp2_with fail
          go_ret
          exact ⟨rfl, HBF.out⟩
end Go.Proofs.YtdidkfadiaafiaaDoor
