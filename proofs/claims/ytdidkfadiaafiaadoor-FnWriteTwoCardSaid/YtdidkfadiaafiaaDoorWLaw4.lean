/- The walk of FnWriteTwo. -/
import Derived.Test.YtdidkfadiaafiaaDoorWriteKit
namespace Go.Proofs.YtdidkfadiaafiaaDoor
open Go Go.RowKit

def nmsB : List ByteArray := [(⟨#[65]⟩ : ByteArray), ⟨#[66]⟩, ⟨#[67]⟩, ⟨#[68]⟩, ⟨#[69]⟩, ⟨#[70]⟩]
theorem nmsB_size : ∀ s ∈ nmsB, s.size ≤ 1 := by
  intro s h
  simp only [nmsB, List.mem_cons, List.mem_nil_iff, or_false] at h
  rcases h with rfl | rfl | rfl | rfl | rfl | rfl <;> decide

set_option maxRecDepth 100000 in
set_option maxHeartbeats 4000000 in
theorem writeTwo_walk (x y : Loc UInt8) (w : World) (hx : x.At w) (hy : y.At w) :
    Calls Tryd.prog 6 #[x.val, y.val] w fun e w' => e = .returned (.bool true) ∧ Below w.heap.size w w' := by
  have h1 := hx.lenMax
  have h2 := hy.lenMax
  have HX0 := Lib.hid hx
  clear hx hy
  by_cases hbig : (1048576 : Int) < (x.xs.length : Int)
  · obtain ⟨xa, xc, xs⟩ := x
    obtain ⟨ya, yc, ys⟩ := y
    simp only [Loc.val] at hbig ⊢
    go_enter Tryd.func6, Tryd.ntmps6
    go_wp2_with fail
    go_ret
    exact ⟨rfl, Below.refl _ _⟩
  by_cases hbig2 : (1048576 : Int) < (y.xs.length : Int)
  · obtain ⟨xa, xc, xs⟩ := x
    obtain ⟨ya, yc, ys⟩ := y
    simp only [Loc.val] at hbig hbig2 ⊢
    go_enter Tryd.func6, Tryd.ntmps6
    go_wp2_with fail
    go_ret
    exact ⟨rfl, Below.refl _ _⟩
  have hc := Lib.hid (drawTreeWrite_any x w HX0.out)
  obtain ⟨ua, uc, us⟩ := x
  obtain ⟨ma, mc, ms⟩ := y
  simp only [Loc.val] at hbig hbig2 hc ⊢
  go_enter Tryd.func6, Tryd.ntmps6
  go_wp2_with fail
  refine hc.out.mono ?_
  rintro e w1 ⟨⟨ta, tc, ts⟩, site, n, g, s, rfl, h5, hs1, hs6, hnm, hst, hA, b1⟩
  have HNM := Lib.hid (show n ∈ sixN from hnm)
  have HN : Hid (n.size ≤ maxLen) := Lib.hid (by have := sixN_size HNM.out; simp only [maxLen]; omega)
  have HST : Hid (s.size ≤ maxLen) := Lib.hid (by simp only [maxLen]; omega)
  have HSI : Hid (-9223372036854775808 ≤ site ∧ site ≤ 9223372036854775807) := Lib.hid (by omega)
  have B := Lib.hid b1
  have AT := Lib.hid hA
  obtain ⟨T, hT⟩ : ∃ T, ts.map LFile.er = T := ⟨_, rfl⟩
  have HTE := Lib.hid hT
  obtain ⟨⟨X, ok⟩, hP⟩ : ∃ P, writeZ T site n g s = P := ⟨_, rfl⟩
  have HP := Lib.hid hP
  clear hc hnm hst hA b1 hP hT h5
  simp only [Loc.val]
  go_wp2_with fail
  refine (sTreeWrite_any ⟨ta, tc, ts⟩ site n g s w1 AT.out HSI.out HN.out HST.out).mono ?_
  rw [HTE.out, HP.out]
  rintro e w2 ⟨⟨va, vc, vs⟩, rfl, hv, hvA, b2⟩
  have HVE := Lib.hid hv
  have AV := Lib.hid hvA
  first
    | replace B := Lib.hid (Loc.At.belowAll B.out (b2))
    | replace B := Lib.hid (nextB B.out (b2))
    | replace B := Lib.hid (Boxed.keep B.out (b2))
    | replace B := Lib.hid (Dat.belowAll B.out (b2))
    | replace B := Lib.hid (Fr.belowAll B.out (b2))
    | replace B := Lib.hid (Own.belowAll B.out (b2))
    | replace B := Lib.hid (Grows.next B.out (b2))
  first
    | replace AT := Lib.hid (Loc.At.belowAll AT.out (b2))
    | replace AT := Lib.hid (nextB AT.out (b2))
    | replace AT := Lib.hid (Boxed.keep AT.out (b2))
    | replace AT := Lib.hid (Dat.belowAll AT.out (b2))
    | replace AT := Lib.hid (Fr.belowAll AT.out (b2))
    | replace AT := Lib.hid (Own.belowAll AT.out (b2))
    | replace AT := Lib.hid (Grows.next AT.out (b2))
  clear hv hvA b2
  simp only [Loc.val]
  go_wp2_with fail
  refine (iTreeWrite_any ⟨ta, tc, ts⟩ site n g s w2 AT.out HSI.out HN.out HST.out).mono ?_
  rw [HTE.out, HP.out]
  rintro e w3 ⟨⟨xa, xc, xs⟩, rfl, hx, hxA, -, b3⟩
  have HXE := Lib.hid (show xs.map LFile.er = X from hx)
  have AX := Lib.hid hxA
  first
    | replace B := Lib.hid (Loc.At.belowAll B.out (b3))
    | replace B := Lib.hid (nextB B.out (b3))
    | replace B := Lib.hid (Boxed.keep B.out (b3))
    | replace B := Lib.hid (Dat.belowAll B.out (b3))
    | replace B := Lib.hid (Fr.belowAll B.out (b3))
    | replace B := Lib.hid (Own.belowAll B.out (b3))
    | replace B := Lib.hid (Grows.next B.out (b3))
  first
    | replace AT := Lib.hid (Loc.At.belowAll AT.out (b3))
    | replace AT := Lib.hid (nextB AT.out (b3))
    | replace AT := Lib.hid (Boxed.keep AT.out (b3))
    | replace AT := Lib.hid (Dat.belowAll AT.out (b3))
    | replace AT := Lib.hid (Fr.belowAll AT.out (b3))
    | replace AT := Lib.hid (Own.belowAll AT.out (b3))
    | replace AT := Lib.hid (Grows.next AT.out (b3))
  first
    | replace AV := Lib.hid (Loc.At.belowAll AV.out (b3))
    | replace AV := Lib.hid (nextB AV.out (b3))
    | replace AV := Lib.hid (Boxed.keep AV.out (b3))
    | replace AV := Lib.hid (Dat.belowAll AV.out (b3))
    | replace AV := Lib.hid (Fr.belowAll AV.out (b3))
    | replace AV := Lib.hid (Own.belowAll AV.out (b3))
    | replace AV := Lib.hid (Grows.next AV.out (b3))
  clear hx hxA b3
  have hbb : (ok != ok) = false := by simp
  have hbe : (ok == ok) = true := by simp
  have HXV : Hid ((⟨xa, xc, xs⟩ : Loc LFile).xs.map LFile.er = (⟨va, vc, vs⟩ : Loc LFile).xs.map LFile.er) := Lib.hid (HXE.out.trans HVE.out.symm)
  simp only [Loc.val]
  go_wp2_with fail
  refine (lvTree_yes ⟨xa, xc, xs⟩ ⟨va, vc, vs⟩ w3 AX.out AV.out HXV.out).mono ?_
  rintro e w4 ⟨rfl, b4⟩
  first
    | replace B := Lib.hid (Loc.At.belowAll B.out (b4))
    | replace B := Lib.hid (nextB B.out (b4))
    | replace B := Lib.hid (Boxed.keep B.out (b4))
    | replace B := Lib.hid (Dat.belowAll B.out (b4))
    | replace B := Lib.hid (Fr.belowAll B.out (b4))
    | replace B := Lib.hid (Own.belowAll B.out (b4))
    | replace B := Lib.hid (Grows.next B.out (b4))
  first
    | replace AT := Lib.hid (Loc.At.belowAll AT.out (b4))
    | replace AT := Lib.hid (nextB AT.out (b4))
    | replace AT := Lib.hid (Boxed.keep AT.out (b4))
    | replace AT := Lib.hid (Dat.belowAll AT.out (b4))
    | replace AT := Lib.hid (Fr.belowAll AT.out (b4))
    | replace AT := Lib.hid (Own.belowAll AT.out (b4))
    | replace AT := Lib.hid (Grows.next AT.out (b4))
  first
    | replace AV := Lib.hid (Loc.At.belowAll AV.out (b4))
    | replace AV := Lib.hid (nextB AV.out (b4))
    | replace AV := Lib.hid (Boxed.keep AV.out (b4))
    | replace AV := Lib.hid (Dat.belowAll AV.out (b4))
    | replace AV := Lib.hid (Fr.belowAll AV.out (b4))
    | replace AV := Lib.hid (Own.belowAll AV.out (b4))
    | replace AV := Lib.hid (Grows.next AV.out (b4))
  first
    | replace AX := Lib.hid (Loc.At.belowAll AX.out (b4))
    | replace AX := Lib.hid (nextB AX.out (b4))
    | replace AX := Lib.hid (Boxed.keep AX.out (b4))
    | replace AX := Lib.hid (Dat.belowAll AX.out (b4))
    | replace AX := Lib.hid (Fr.belowAll AX.out (b4))
    | replace AX := Lib.hid (Own.belowAll AX.out (b4))
    | replace AX := Lib.hid (Grows.next AX.out (b4))
  clear b4
  cases ok with
  | false =>
    go_wp2_with fail
    refine (lvTree_yes ⟨xa, xc, xs⟩ ⟨va, vc, vs⟩ w4 AX.out AV.out HXV.out).mono ?_
    rintro e w9 ⟨rfl, b9⟩
    first
      | replace B := Lib.hid (Loc.At.belowAll B.out (b9))
      | replace B := Lib.hid (nextB B.out (b9))
      | replace B := Lib.hid (Boxed.keep B.out (b9))
      | replace B := Lib.hid (Dat.belowAll B.out (b9))
      | replace B := Lib.hid (Fr.belowAll B.out (b9))
      | replace B := Lib.hid (Own.belowAll B.out (b9))
      | replace B := Lib.hid (Grows.next B.out (b9))
    clear b9
    go_wp2_with fail
    go_ret
    exact ⟨rfl, B.out⟩
  | true =>
    have HWO := Lib.hid (writeZ_ok HP.out)
    have HT := Lib.hid HWO.out.1
    have HX := Lib.hid (show X = writeT T site n g s from HWO.out.2.2)
    have HXT := Lib.hid (show TreeOK X by rw [HX.out]; exact write_tree HT.out HWO.out.2.1)
    obtain ⟨k, hk⟩ : ∃ k : Nat, k = ms.length % 6 := ⟨_, rfl⟩
    have hk6 : k < 6 := by omega
    have hrem : (ms.length : Int).tmod 6 = (k : Int) := by
      rw [Int.tmod_eq_emod_of_nonneg (by omega), hk]; rfl
    have hrw : IntKind.i64.wrap (k : Int) = (k : Int) := IntWalk.i64_in _ (by omega)
    have hk6i : (k : Int) < 6 := by omega
    obtain ⟨m, hm⟩ : ∃ m, nmsB[k]'hk6 = m := ⟨_, rfl⟩
    have HMS : Hid (m.size ≤ maxLen) := Lib.hid (by have := nmsB_size m (by rw [← hm]; exact List.getElem_mem hk6); simp only [maxLen]; omega)
    have b8 : Below w4.heap.size w4 (w4.alloc (Obj.cells #[.string ⟨#[65]⟩, .string ⟨#[66]⟩, .string ⟨#[67]⟩, .string ⟨#[68]⟩, .string ⟨#[69]⟩, .string ⟨#[70]⟩] 9)) := (Below.refl _ _).alloc (Nat.le_refl _) _
    have HLA := Lib.hid (strs_At (xs := nmsB) (n := 6) (heap_alloc_new w4 (Obj.cells #[.string ⟨#[65]⟩, .string ⟨#[66]⟩, .string ⟨#[67]⟩, .string ⟨#[68]⟩, .string ⟨#[69]⟩, .string ⟨#[70]⟩] 9)) rfl rfl (by decide) (fun s hs => by have := nmsB_size s hs; omega))
    have cm : (w4.alloc (Obj.cells #[.string ⟨#[65]⟩, .string ⟨#[66]⟩, .string ⟨#[67]⟩, .string ⟨#[68]⟩, .string ⟨#[69]⟩, .string ⟨#[70]⟩] 9)).cell? ⟨w4.heap.size, k, none⟩ = some (.string m) := by
      have := HLA.out.cellK (b := w4.heap.size) (o := 0) rfl (i := k) hk6 (j := 0) (v := .string (nmsB[k]'hk6)) rfl
      rw [hm] at this
      simpa [Dat.k] using this
    first
      | replace B := Lib.hid (Loc.At.belowAll B.out (b8))
      | replace B := Lib.hid (nextB B.out (b8))
      | replace B := Lib.hid (Boxed.keep B.out (b8))
      | replace B := Lib.hid (Dat.belowAll B.out (b8))
      | replace B := Lib.hid (Fr.belowAll B.out (b8))
      | replace B := Lib.hid (Own.belowAll B.out (b8))
      | replace B := Lib.hid (Grows.next B.out (b8))
    first
      | replace AT := Lib.hid (Loc.At.belowAll AT.out (b8))
      | replace AT := Lib.hid (nextB AT.out (b8))
      | replace AT := Lib.hid (Boxed.keep AT.out (b8))
      | replace AT := Lib.hid (Dat.belowAll AT.out (b8))
      | replace AT := Lib.hid (Fr.belowAll AT.out (b8))
      | replace AT := Lib.hid (Own.belowAll AT.out (b8))
      | replace AT := Lib.hid (Grows.next AT.out (b8))
    first
      | replace AX := Lib.hid (Loc.At.belowAll AX.out (b8))
      | replace AX := Lib.hid (nextB AX.out (b8))
      | replace AX := Lib.hid (Boxed.keep AX.out (b8))
      | replace AX := Lib.hid (Dat.belowAll AX.out (b8))
      | replace AX := Lib.hid (Fr.belowAll AX.out (b8))
      | replace AX := Lib.hid (Own.belowAll AX.out (b8))
      | replace AX := Lib.hid (Grows.next AX.out (b8))
    clear b8 hm hk
    by_cases he : m = n
    · have he1 : (m.toList == n.toList) = true := by simp [he]
      clear he
      go_wp2_with fail
      go_ret
      exact ⟨rfl, B.out⟩
    · have he1 : (m.toList == n.toList) = false := by rw [beq_eq_false_iff_ne]; exact fun h => he (toList_inj.1 h)
      have HNE := Lib.hid he
      clear he
      obtain ⟨⟨Y, o1⟩, hP1⟩ : ∃ P, writeZ X 2 m false ⟨#[97]⟩ = P := ⟨_, rfl⟩
      obtain ⟨⟨Z, o2⟩, hP2⟩ : ∃ P, writeZ T 2 m false ⟨#[97]⟩ = P := ⟨_, rfl⟩
      have hlaw := writeTwo_law (s2 := 2) (g2 := false) (x2 := ⟨#[97]⟩) HP.out HNE.out
      rw [hP1, hP2] at hlaw
      simp only at hlaw
      obtain ⟨ho, hu⟩ := hlaw
      subst ho
      have HP1 := Lib.hid hP1
      have HP2 := Lib.hid hP2
      have HU := Lib.hid hu
      clear hP1 hP2 hu
      go_wp2_with fail
      generalize w4.alloc (Obj.cells #[.string ⟨#[65]⟩, .string ⟨#[66]⟩, .string ⟨#[67]⟩, .string ⟨#[68]⟩, .string ⟨#[69]⟩, .string ⟨#[70]⟩] 9) = w5 at *
      clear cm
      refine (iTreeWrite_any ⟨xa, xc, xs⟩ 2 m false ⟨#[97]⟩ w5 AX.out (by decide) HMS.out (by decide)).mono ?_
      rw [show (⟨xa, xc, xs⟩ : Loc LFile).xs.map LFile.er = X from HXE.out, HP1.out]
      rintro e w6 ⟨⟨ya, yc, ys⟩, rfl, hy, hyA, -, b6⟩
      have HYE := Lib.hid (show ys.map LFile.er = Y from hy)
      have AY := Lib.hid hyA
      first
        | replace B := Lib.hid (Loc.At.belowAll B.out (b6))
        | replace B := Lib.hid (nextB B.out (b6))
        | replace B := Lib.hid (Boxed.keep B.out (b6))
        | replace B := Lib.hid (Dat.belowAll B.out (b6))
        | replace B := Lib.hid (Fr.belowAll B.out (b6))
        | replace B := Lib.hid (Own.belowAll B.out (b6))
        | replace B := Lib.hid (Grows.next B.out (b6))
      first
        | replace AT := Lib.hid (Loc.At.belowAll AT.out (b6))
        | replace AT := Lib.hid (nextB AT.out (b6))
        | replace AT := Lib.hid (Boxed.keep AT.out (b6))
        | replace AT := Lib.hid (Dat.belowAll AT.out (b6))
        | replace AT := Lib.hid (Fr.belowAll AT.out (b6))
        | replace AT := Lib.hid (Own.belowAll AT.out (b6))
        | replace AT := Lib.hid (Grows.next AT.out (b6))
      clear hy hyA b6
      simp only [Loc.val]
      go_wp2_with fail
      refine (iTreeWrite_any ⟨ta, tc, ts⟩ 2 m false ⟨#[97]⟩ w6 AT.out (by decide) HMS.out (by decide)).mono ?_
      rw [show (⟨ta, tc, ts⟩ : Loc LFile).xs.map LFile.er = T from HTE.out, HP2.out]
      rintro e w7 ⟨⟨za, zc, zs⟩, rfl, hz, hzA, -, b7⟩
      have HZE := Lib.hid (show zs.map LFile.er = Z from hz)
      have AZ := Lib.hid hzA
      first
        | replace B := Lib.hid (Loc.At.belowAll B.out (b7))
        | replace B := Lib.hid (nextB B.out (b7))
        | replace B := Lib.hid (Boxed.keep B.out (b7))
        | replace B := Lib.hid (Dat.belowAll B.out (b7))
        | replace B := Lib.hid (Fr.belowAll B.out (b7))
        | replace B := Lib.hid (Own.belowAll B.out (b7))
        | replace B := Lib.hid (Grows.next B.out (b7))
      first
        | replace AY := Lib.hid (Loc.At.belowAll AY.out (b7))
        | replace AY := Lib.hid (nextB AY.out (b7))
        | replace AY := Lib.hid (Boxed.keep AY.out (b7))
        | replace AY := Lib.hid (Dat.belowAll AY.out (b7))
        | replace AY := Lib.hid (Fr.belowAll AY.out (b7))
        | replace AY := Lib.hid (Own.belowAll AY.out (b7))
        | replace AY := Lib.hid (Grows.next AY.out (b7))
      clear hz hzA b7
      obtain ⟨⟨U, o3⟩, hP3⟩ : ∃ P, writeZ Z site n g s = P := ⟨_, rfl⟩
      have HP3 := Lib.hid hP3
      clear hP3
      simp only [Loc.val]
      go_wp2_with fail
      refine (iTreeWrite_any ⟨za, zc, zs⟩ site n g s w7 AZ.out HSI.out HN.out HST.out).mono ?_
      rw [show (⟨za, zc, zs⟩ : Loc LFile).xs.map LFile.er = Z from HZE.out, HP3.out]
      rintro e w8 ⟨⟨va', vc', us'⟩, rfl, hu, huA, -, b8⟩
      have HUE := Lib.hid (show us'.map LFile.er = U from hu)
      have AU := Lib.hid huA
      first
        | replace B := Lib.hid (Loc.At.belowAll B.out (b8))
        | replace B := Lib.hid (nextB B.out (b8))
        | replace B := Lib.hid (Boxed.keep B.out (b8))
        | replace B := Lib.hid (Dat.belowAll B.out (b8))
        | replace B := Lib.hid (Fr.belowAll B.out (b8))
        | replace B := Lib.hid (Own.belowAll B.out (b8))
        | replace B := Lib.hid (Grows.next B.out (b8))
      first
        | replace AY := Lib.hid (Loc.At.belowAll AY.out (b8))
        | replace AY := Lib.hid (nextB AY.out (b8))
        | replace AY := Lib.hid (Boxed.keep AY.out (b8))
        | replace AY := Lib.hid (Dat.belowAll AY.out (b8))
        | replace AY := Lib.hid (Fr.belowAll AY.out (b8))
        | replace AY := Lib.hid (Own.belowAll AY.out (b8))
        | replace AY := Lib.hid (Grows.next AY.out (b8))
      clear hu huA b8
      simp only [Loc.val]
      cases o1 with
      | false =>
        go_wp2_with fail
        go_ret
        exact ⟨rfl, B.out⟩
      | true =>
        have h3 := HU.out rfl
        rw [HP3.out] at h3
        simp only [Prod.mk.injEq] at h3
        obtain ⟨hUY, ho3⟩ := h3
        subst ho3
        have HUY := Lib.hid hUY
        clear hUY
        go_wp2_with fail
        refine (lvTree_yes ⟨va', vc', us'⟩ ⟨ya, yc, ys⟩ w8 AU.out AY.out (HUE.out.trans (HUY.out.trans HYE.out.symm))).mono ?_
        rintro e w9 ⟨rfl, b9⟩
        first
          | replace B := Lib.hid (Loc.At.belowAll B.out (b9))
          | replace B := Lib.hid (nextB B.out (b9))
          | replace B := Lib.hid (Boxed.keep B.out (b9))
          | replace B := Lib.hid (Dat.belowAll B.out (b9))
          | replace B := Lib.hid (Fr.belowAll B.out (b9))
          | replace B := Lib.hid (Own.belowAll B.out (b9))
          | replace B := Lib.hid (Grows.next B.out (b9))
        clear b9
        go_wp2_with fail
        go_ret
        exact ⟨rfl, B.out⟩
end Go.Proofs.YtdidkfadiaafiaaDoor
