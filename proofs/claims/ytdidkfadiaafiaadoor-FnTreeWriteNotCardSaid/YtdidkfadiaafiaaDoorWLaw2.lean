/- The walk of FnTreeWriteNot. -/
import Derived.Test.YtdidkfadiaafiaaDoorWriteKit
namespace Go.Proofs.YtdidkfadiaafiaaDoor
open Go Go.RowKit

theorem G_list : (⟨#[71]⟩ : ByteArray).toList = [71] := by rw [ByteArray.toList_eq]
theorem writeZ_not {t X : List File} {site : Int} {n : ByteArray} {g : Bool} {s : ByteArray} {ok : Bool} (h : TreeOK t) (hp : writeZ t site n g s = (X, ok)) : ok = writeOK t site n g s ∧ (ok = false → X = t) := by
  unfold writeZ at hp
  rw [if_pos (treeB_true h)] at hp
  split at hp
  · rename_i k
    simp only [Prod.mk.injEq] at hp
    exact ⟨by rw [k, ← hp.2], fun hf => by rw [← hp.2] at hf; cases hf⟩
  · rename_i k
    simp only [Prod.mk.injEq] at hp
    refine ⟨?_, fun _ => hp.1.symm⟩
    rw [← hp.2]
    exact (Bool.not_eq_true _ ▸ k : writeOK t site n g s = false).symm

set_option maxRecDepth 100000 in
set_option maxHeartbeats 4000000 in
theorem treeWriteNot_walk (x : Loc UInt8) (w : World) (hx : x.At w) :
    Calls Tryd.prog 4 #[x.val] w fun e w' => e = .returned (.bool true) ∧ Below w.heap.size w w' := by
  have h1 := hx.lenMax
  have HX0 := Lib.hid hx
  clear hx
  by_cases hbig : (1048576 : Int) < (x.xs.length : Int)
  · obtain ⟨xa, xc, xs⟩ := x
    simp only [Loc.val] at hbig ⊢
    go_enter Tryd.func4, Tryd.ntmps4
    go_wp2_with fail
    go_ret
    exact ⟨rfl, Below.refl _ _⟩
  have hc := Lib.hid (drawTreeWrite_any x w HX0.out)
  obtain ⟨ua, uc, us⟩ := x
  simp only [Loc.val] at hbig hc ⊢
  go_enter Tryd.func4, Tryd.ntmps4
  go_wp2_with fail
  refine hc.out.mono ?_
  rintro e w1 ⟨⟨ta, tc, ts⟩, site, n, g, s, rfl, h5, hs1, hs6, hnm, hst, hA, b1⟩
  have HNM := Lib.hid (show n ∈ sixN from hnm)
  have HN : Hid (n.size ≤ maxLen) := Lib.hid (by have := sixN_size HNM.out; simp only [maxLen]; omega)
  have HST : Hid (s.size ≤ maxLen) := Lib.hid (by simp only [maxLen]; omega)
  have HSI : Hid (-9223372036854775808 ≤ site ∧ site ≤ 9223372036854775807) := Lib.hid (by omega)
  have B := Lib.hid b1
  have AT := Lib.hid hA
  obtain ⟨T, hT⟩ : ∃ T, ts.map LFile.er = T := ⟨_, rfl⟩
  have HTE := Lib.hid hT
  obtain ⟨⟨X, ok⟩, hP⟩ : ∃ P, writeZ T site n g s = P := ⟨_, rfl⟩
  have HP := Lib.hid hP
  clear hc hnm hst hA b1 hP hT h5
  simp only [Loc.val]
  go_wp2_with fail
  refine (sTreeWrite_any ⟨ta, tc, ts⟩ site n g s w1 AT.out HSI.out HN.out HST.out).mono ?_
  rw [HTE.out, HP.out]
  rintro e w2 ⟨⟨va, vc, vs⟩, rfl, hv, hvA, b2⟩
  have HVE := Lib.hid hv
  have AV := Lib.hid hvA
  first
    | replace B := Lib.hid (Loc.At.belowAll B.out (b2))
    | replace B := Lib.hid (nextB B.out (b2))
    | replace B := Lib.hid (Boxed.keep B.out (b2))
    | replace B := Lib.hid (Dat.belowAll B.out (b2))
    | replace B := Lib.hid (Fr.belowAll B.out (b2))
    | replace B := Lib.hid (Own.belowAll B.out (b2))
    | replace B := Lib.hid (Grows.next B.out (b2))
  first
    | replace AT := Lib.hid (Loc.At.belowAll AT.out (b2))
    | replace AT := Lib.hid (nextB AT.out (b2))
    | replace AT := Lib.hid (Boxed.keep AT.out (b2))
    | replace AT := Lib.hid (Dat.belowAll AT.out (b2))
    | replace AT := Lib.hid (Fr.belowAll AT.out (b2))
    | replace AT := Lib.hid (Own.belowAll AT.out (b2))
    | replace AT := Lib.hid (Grows.next AT.out (b2))
  clear hv hvA b2
  simp only [Loc.val]
  go_wp2_with fail
  refine (iTreeWrite_any ⟨ta, tc, ts⟩ site n g s w2 AT.out HSI.out HN.out HST.out).mono ?_
  rw [HTE.out, HP.out]
  rintro e w3 ⟨⟨xa, xc, xs⟩, rfl, hx, hxA, -, b3⟩
  have HXE := Lib.hid (show xs.map LFile.er = X from hx)
  have AX := Lib.hid hxA
  first
    | replace B := Lib.hid (Loc.At.belowAll B.out (b3))
    | replace B := Lib.hid (nextB B.out (b3))
    | replace B := Lib.hid (Boxed.keep B.out (b3))
    | replace B := Lib.hid (Dat.belowAll B.out (b3))
    | replace B := Lib.hid (Fr.belowAll B.out (b3))
    | replace B := Lib.hid (Own.belowAll B.out (b3))
    | replace B := Lib.hid (Grows.next B.out (b3))
  first
    | replace AT := Lib.hid (Loc.At.belowAll AT.out (b3))
    | replace AT := Lib.hid (nextB AT.out (b3))
    | replace AT := Lib.hid (Boxed.keep AT.out (b3))
    | replace AT := Lib.hid (Dat.belowAll AT.out (b3))
    | replace AT := Lib.hid (Fr.belowAll AT.out (b3))
    | replace AT := Lib.hid (Own.belowAll AT.out (b3))
    | replace AT := Lib.hid (Grows.next AT.out (b3))
  first
    | replace AV := Lib.hid (Loc.At.belowAll AV.out (b3))
    | replace AV := Lib.hid (nextB AV.out (b3))
    | replace AV := Lib.hid (Boxed.keep AV.out (b3))
    | replace AV := Lib.hid (Dat.belowAll AV.out (b3))
    | replace AV := Lib.hid (Fr.belowAll AV.out (b3))
    | replace AV := Lib.hid (Own.belowAll AV.out (b3))
    | replace AV := Lib.hid (Grows.next AV.out (b3))
  clear hx hxA b3
  have hbb : (ok != ok) = false := by simp
  have hbe : (ok == ok) = true := by simp
  have HXV : Hid ((⟨xa, xc, xs⟩ : Loc LFile).xs.map LFile.er = (⟨va, vc, vs⟩ : Loc LFile).xs.map LFile.er) := Lib.hid (HXE.out.trans HVE.out.symm)
  simp only [Loc.val]
  go_wp2_with fail
  refine (lvTree_yes ⟨xa, xc, xs⟩ ⟨va, vc, vs⟩ w3 AX.out AV.out HXV.out).mono ?_
  rintro e w4 ⟨rfl, b4⟩
  first
    | replace B := Lib.hid (Loc.At.belowAll B.out (b4))
    | replace B := Lib.hid (nextB B.out (b4))
    | replace B := Lib.hid (Boxed.keep B.out (b4))
    | replace B := Lib.hid (Dat.belowAll B.out (b4))
    | replace B := Lib.hid (Fr.belowAll B.out (b4))
    | replace B := Lib.hid (Own.belowAll B.out (b4))
    | replace B := Lib.hid (Grows.next B.out (b4))
  first
    | replace AT := Lib.hid (Loc.At.belowAll AT.out (b4))
    | replace AT := Lib.hid (nextB AT.out (b4))
    | replace AT := Lib.hid (Boxed.keep AT.out (b4))
    | replace AT := Lib.hid (Dat.belowAll AT.out (b4))
    | replace AT := Lib.hid (Fr.belowAll AT.out (b4))
    | replace AT := Lib.hid (Own.belowAll AT.out (b4))
    | replace AT := Lib.hid (Grows.next AT.out (b4))
  first
    | replace AV := Lib.hid (Loc.At.belowAll AV.out (b4))
    | replace AV := Lib.hid (nextB AV.out (b4))
    | replace AV := Lib.hid (Boxed.keep AV.out (b4))
    | replace AV := Lib.hid (Dat.belowAll AV.out (b4))
    | replace AV := Lib.hid (Fr.belowAll AV.out (b4))
    | replace AV := Lib.hid (Own.belowAll AV.out (b4))
    | replace AV := Lib.hid (Grows.next AV.out (b4))
  first
    | replace AX := Lib.hid (Loc.At.belowAll AX.out (b4))
    | replace AX := Lib.hid (nextB AX.out (b4))
    | replace AX := Lib.hid (Boxed.keep AX.out (b4))
    | replace AX := Lib.hid (Dat.belowAll AX.out (b4))
    | replace AX := Lib.hid (Fr.belowAll AX.out (b4))
    | replace AX := Lib.hid (Own.belowAll AX.out (b4))
    | replace AX := Lib.hid (Grows.next AX.out (b4))
  clear b4
  have hct := Lib.hid (sTreeOk_any ⟨ta, tc, ts⟩ w4 AT.out)
  rw [show (⟨ta, tc, ts⟩ : Loc LFile).xs.map LFile.er = T from HTE.out] at hct
  generalize hb : treeB T = tb at hct
  go_wp2_with fail
  refine hct.out.mono ?_
  rintro e w5 ⟨rfl, b5⟩
  first
    | replace B := Lib.hid (Loc.At.belowAll B.out (b5))
    | replace B := Lib.hid (nextB B.out (b5))
    | replace B := Lib.hid (Boxed.keep B.out (b5))
    | replace B := Lib.hid (Dat.belowAll B.out (b5))
    | replace B := Lib.hid (Fr.belowAll B.out (b5))
    | replace B := Lib.hid (Own.belowAll B.out (b5))
    | replace B := Lib.hid (Grows.next B.out (b5))
  first
    | replace AT := Lib.hid (Loc.At.belowAll AT.out (b5))
    | replace AT := Lib.hid (nextB AT.out (b5))
    | replace AT := Lib.hid (Boxed.keep AT.out (b5))
    | replace AT := Lib.hid (Dat.belowAll AT.out (b5))
    | replace AT := Lib.hid (Fr.belowAll AT.out (b5))
    | replace AT := Lib.hid (Own.belowAll AT.out (b5))
    | replace AT := Lib.hid (Grows.next AT.out (b5))
  first
    | replace AV := Lib.hid (Loc.At.belowAll AV.out (b5))
    | replace AV := Lib.hid (nextB AV.out (b5))
    | replace AV := Lib.hid (Boxed.keep AV.out (b5))
    | replace AV := Lib.hid (Dat.belowAll AV.out (b5))
    | replace AV := Lib.hid (Fr.belowAll AV.out (b5))
    | replace AV := Lib.hid (Own.belowAll AV.out (b5))
    | replace AV := Lib.hid (Grows.next AV.out (b5))
  first
    | replace AX := Lib.hid (Loc.At.belowAll AX.out (b5))
    | replace AX := Lib.hid (nextB AX.out (b5))
    | replace AX := Lib.hid (Boxed.keep AX.out (b5))
    | replace AX := Lib.hid (Dat.belowAll AX.out (b5))
    | replace AX := Lib.hid (Fr.belowAll AX.out (b5))
    | replace AX := Lib.hid (Own.belowAll AX.out (b5))
    | replace AX := Lib.hid (Grows.next AX.out (b5))
  clear b5 hct
  cases tb with
  | false =>
    go_wp2_with fail
    refine (lvTree_yes ⟨xa, xc, xs⟩ ⟨va, vc, vs⟩ w5 AX.out AV.out HXV.out).mono ?_
    rintro e w9 ⟨rfl, b9⟩
    first
      | replace B := Lib.hid (Loc.At.belowAll B.out (b9))
      | replace B := Lib.hid (nextB B.out (b9))
      | replace B := Lib.hid (Boxed.keep B.out (b9))
      | replace B := Lib.hid (Dat.belowAll B.out (b9))
      | replace B := Lib.hid (Fr.belowAll B.out (b9))
      | replace B := Lib.hid (Own.belowAll B.out (b9))
      | replace B := Lib.hid (Grows.next B.out (b9))
    clear b9
    go_wp2_with fail
    go_ret
    exact ⟨rfl, B.out⟩
  | true =>
    have HT := Lib.hid (TreeOK.of hb)
    clear hb
    go_wp2_with fail
    refine (treeAt_ok ⟨ta, tc, ts⟩ n w5 AT.out HTE.out HT.out).mono ?_
    rintro e w6 ⟨⟨ya, yc, ys⟩, rfl, hy, hyA, -, b6⟩
    have HYE := Lib.hid (show ys.map LSib.er = atL n T from hy)
    have HLY : Hid ((atL n T).length = ys.length) := Lib.hid (by rw [← HYE.out]; simp)
    have AY := Lib.hid hyA
    first
      | replace B := Lib.hid (Loc.At.belowAll B.out (b6))
      | replace B := Lib.hid (nextB B.out (b6))
      | replace B := Lib.hid (Boxed.keep B.out (b6))
      | replace B := Lib.hid (Dat.belowAll B.out (b6))
      | replace B := Lib.hid (Fr.belowAll B.out (b6))
      | replace B := Lib.hid (Own.belowAll B.out (b6))
      | replace B := Lib.hid (Grows.next B.out (b6))
    first
      | replace AT := Lib.hid (Loc.At.belowAll AT.out (b6))
      | replace AT := Lib.hid (nextB AT.out (b6))
      | replace AT := Lib.hid (Boxed.keep AT.out (b6))
      | replace AT := Lib.hid (Dat.belowAll AT.out (b6))
      | replace AT := Lib.hid (Fr.belowAll AT.out (b6))
      | replace AT := Lib.hid (Own.belowAll AT.out (b6))
      | replace AT := Lib.hid (Grows.next AT.out (b6))
    first
      | replace AX := Lib.hid (Loc.At.belowAll AX.out (b6))
      | replace AX := Lib.hid (nextB AX.out (b6))
      | replace AX := Lib.hid (Boxed.keep AX.out (b6))
      | replace AX := Lib.hid (Dat.belowAll AX.out (b6))
      | replace AX := Lib.hid (Fr.belowAll AX.out (b6))
      | replace AX := Lib.hid (Own.belowAll AX.out (b6))
      | replace AX := Lib.hid (Grows.next AX.out (b6))
    clear hy hyA b6
    simp only [Loc.val]
    have b6 : Below w6.heap.size w6 (w6.alloc (Obj.cells #[.int .i64 0, .int .i64 0, .int .i64 0] 3)) := (Below.refl _ _).alloc (Nat.le_refl _) _
    have HZA := Lib.hid (new_At (α := Int) w6 [0, 0, 0] #[.int .i64 0, .int .i64 0, .int .i64 0] 3 rfl (by simp [maxLen]) (fun _ _ => trivial))
    first
      | replace B := Lib.hid (Loc.At.belowAll B.out (b6))
      | replace B := Lib.hid (nextB B.out (b6))
      | replace B := Lib.hid (Boxed.keep B.out (b6))
      | replace B := Lib.hid (Dat.belowAll B.out (b6))
      | replace B := Lib.hid (Fr.belowAll B.out (b6))
      | replace B := Lib.hid (Own.belowAll B.out (b6))
      | replace B := Lib.hid (Grows.next B.out (b6))
    first
      | replace AT := Lib.hid (Loc.At.belowAll AT.out (b6))
      | replace AT := Lib.hid (nextB AT.out (b6))
      | replace AT := Lib.hid (Boxed.keep AT.out (b6))
      | replace AT := Lib.hid (Dat.belowAll AT.out (b6))
      | replace AT := Lib.hid (Fr.belowAll AT.out (b6))
      | replace AT := Lib.hid (Own.belowAll AT.out (b6))
      | replace AT := Lib.hid (Grows.next AT.out (b6))
    first
      | replace AX := Lib.hid (Loc.At.belowAll AX.out (b6))
      | replace AX := Lib.hid (nextB AX.out (b6))
      | replace AX := Lib.hid (Boxed.keep AX.out (b6))
      | replace AX := Lib.hid (Dat.belowAll AX.out (b6))
      | replace AX := Lib.hid (Fr.belowAll AX.out (b6))
      | replace AX := Lib.hid (Own.belowAll AX.out (b6))
      | replace AX := Lib.hid (Grows.next AX.out (b6))
    first
      | replace AY := Lib.hid (Loc.At.belowAll AY.out (b6))
      | replace AY := Lib.hid (nextB AY.out (b6))
      | replace AY := Lib.hid (Boxed.keep AY.out (b6))
      | replace AY := Lib.hid (Dat.belowAll AY.out (b6))
      | replace AY := Lib.hid (Fr.belowAll AY.out (b6))
      | replace AY := Lib.hid (Own.belowAll AY.out (b6))
      | replace AY := Lib.hid (Grows.next AY.out (b6))
    clear b6
    by_cases hy0 : ys.length = 0
    · have hz : decide ((0 : Int) < (ys.length : Int)) = false := decide_eq_false (by omega)
      have hz2 : decide (0 < ys.length) = false := decide_eq_false (by omega)
      have HNE : Hid ([0, 0, 0] = vvOf (atL n T)) := Lib.hid (by
        have : atL n T = [] := by rw [← HYE.out, List.eq_nil_of_length_eq_zero hy0]; rfl
        rw [this]; rfl)
      clear hy0
      go_wp2_with fail
      generalize w6.alloc (Obj.cells #[.int .i64 0, .int .i64 0, .int .i64 0] 3) = wv at *
      clear hz hz2
      refine (vvNext_any ⟨some ⟨w6.heap.size, 0, none⟩, 3, [0, 0, 0]⟩ site wv HZA.out HSI.out).mono ?_
      rintro e w7 ⟨⟨qa, qc, qs⟩, rfl, -, -, -, b7⟩
      have AN := Lib.hid HZA.out
      first
        | replace B := Lib.hid (Loc.At.belowAll B.out (b7))
        | replace B := Lib.hid (nextB B.out (b7))
        | replace B := Lib.hid (Boxed.keep B.out (b7))
        | replace B := Lib.hid (Dat.belowAll B.out (b7))
        | replace B := Lib.hid (Fr.belowAll B.out (b7))
        | replace B := Lib.hid (Own.belowAll B.out (b7))
        | replace B := Lib.hid (Grows.next B.out (b7))
      first
        | replace AT := Lib.hid (Loc.At.belowAll AT.out (b7))
        | replace AT := Lib.hid (nextB AT.out (b7))
        | replace AT := Lib.hid (Boxed.keep AT.out (b7))
        | replace AT := Lib.hid (Dat.belowAll AT.out (b7))
        | replace AT := Lib.hid (Fr.belowAll AT.out (b7))
        | replace AT := Lib.hid (Own.belowAll AT.out (b7))
        | replace AT := Lib.hid (Grows.next AT.out (b7))
      first
        | replace AX := Lib.hid (Loc.At.belowAll AX.out (b7))
        | replace AX := Lib.hid (nextB AX.out (b7))
        | replace AX := Lib.hid (Boxed.keep AX.out (b7))
        | replace AX := Lib.hid (Dat.belowAll AX.out (b7))
        | replace AX := Lib.hid (Fr.belowAll AX.out (b7))
        | replace AX := Lib.hid (Own.belowAll AX.out (b7))
        | replace AX := Lib.hid (Grows.next AX.out (b7))
      first
        | replace AN := Lib.hid (Loc.At.belowAll AN.out (b7))
        | replace AN := Lib.hid (nextB AN.out (b7))
        | replace AN := Lib.hid (Boxed.keep AN.out (b7))
        | replace AN := Lib.hid (Dat.belowAll AN.out (b7))
        | replace AN := Lib.hid (Fr.belowAll AN.out (b7))
        | replace AN := Lib.hid (Own.belowAll AN.out (b7))
        | replace AN := Lib.hid (Grows.next AN.out (b7))
      clear b7
      have hns : nextOK [0, 0, 0] site = nextOK (vvOf (atL n T)) site := by rw [HNE.out]
      simp only [hns]
      clear hns
      cases hnx : nextOK (vvOf (atL n T)) site with
      | false =>
        have hko := writeZ_not HT.out HP.out
        have hof : ok = false := by rw [hko.1]; exact (by rw [write_can HT.out, hnx]; rfl)
        have hXT := hko.2 hof
        subst hof
        have HXT := Lib.hid hXT
        clear hko hXT
        clear hnx
        go_wp2_with fail
        refine (lvTree_yes ⟨xa, xc, xs⟩ ⟨ta, tc, ts⟩ w7 AX.out AT.out (HXE.out.trans (HXT.out.trans HTE.out.symm))).mono ?_
        rintro e wz ⟨rfl, bz⟩
        first
          | replace B := Lib.hid (Loc.At.belowAll B.out (bz))
          | replace B := Lib.hid (nextB B.out (bz))
          | replace B := Lib.hid (Boxed.keep B.out (bz))
          | replace B := Lib.hid (Dat.belowAll B.out (bz))
          | replace B := Lib.hid (Fr.belowAll B.out (bz))
          | replace B := Lib.hid (Own.belowAll B.out (bz))
          | replace B := Lib.hid (Grows.next B.out (bz))
        clear bz
        go_wp2_with fail
        go_ret
        exact ⟨rfl, B.out⟩
      | true =>
        by_cases hG : n = ⟨#[71]⟩
        · skip
          have hko := writeZ_not HT.out HP.out
          have hof : ok = false := by rw [hko.1]; exact (by rw [write_can HT.out, sixN_name HNM.out, hG]; simp)
          have hXT := hko.2 hof
          subst hof
          have HXT := Lib.hid hXT
          clear hko hXT
          have hg1 : (n.toList == [71]) = true := by rw [hG, G_list]; rfl
          clear hnx hG
          go_wp2_with fail
          refine (lvTree_yes ⟨xa, xc, xs⟩ ⟨ta, tc, ts⟩ w7 AX.out AT.out (HXE.out.trans (HXT.out.trans HTE.out.symm))).mono ?_
          rintro e wz ⟨rfl, bz⟩
          first
            | replace B := Lib.hid (Loc.At.belowAll B.out (bz))
            | replace B := Lib.hid (nextB B.out (bz))
            | replace B := Lib.hid (Boxed.keep B.out (bz))
            | replace B := Lib.hid (Dat.belowAll B.out (bz))
            | replace B := Lib.hid (Fr.belowAll B.out (bz))
            | replace B := Lib.hid (Own.belowAll B.out (bz))
            | replace B := Lib.hid (Grows.next B.out (bz))
          clear bz
          go_wp2_with fail
          go_ret
          exact ⟨rfl, B.out⟩
        · have hg1 : (n.toList == [71]) = false := by
            rw [beq_eq_false_iff_ne]; exact fun h => hG (toList_inj.1 (h.trans G_list.symm))
          have HNX := Lib.hid hnx
          have HGN := Lib.hid (show nameB n = true by rw [sixN_name HNM.out]; simp [hG])
          have HSE : Hid (LSib.er ⟨⟨some ⟨w6.heap.size, 0, none⟩, 3, [0, 0, 0]⟩, g, s⟩ = ⟨vvOf (atL n T), g, s⟩) := Lib.hid (by simp only [LSib.er, ← HNE.out])
          clear hnx hG
          have HCS := Lib.hid (iSibOk_any ⟨⟨some ⟨w6.heap.size, 0, none⟩, 3, [0, 0, 0]⟩, g, s⟩ w7 ⟨AN.out, HST.out⟩)
          rw [HSE.out] at HCS
          generalize hsb : sibB ⟨vvOf (atL n T), g, s⟩ = sb at HCS
          cases sb with
          | false =>
            have hko := writeZ_not HT.out HP.out
            have hof : ok = false := by rw [hko.1]; exact (by rw [write_can HT.out, hsb]; simp)
            have hXT := hko.2 hof
            subst hof
            have HXT := Lib.hid hXT
            clear hko hXT
            clear hsb
            go_wp2_with fail
            refine HCS.out.mono ?_
            rintro e w8 ⟨rfl, b8⟩
            first
              | replace B := Lib.hid (Loc.At.belowAll B.out (b8))
              | replace B := Lib.hid (nextB B.out (b8))
              | replace B := Lib.hid (Boxed.keep B.out (b8))
              | replace B := Lib.hid (Dat.belowAll B.out (b8))
              | replace B := Lib.hid (Fr.belowAll B.out (b8))
              | replace B := Lib.hid (Own.belowAll B.out (b8))
              | replace B := Lib.hid (Grows.next B.out (b8))
            first
              | replace AT := Lib.hid (Loc.At.belowAll AT.out (b8))
              | replace AT := Lib.hid (nextB AT.out (b8))
              | replace AT := Lib.hid (Boxed.keep AT.out (b8))
              | replace AT := Lib.hid (Dat.belowAll AT.out (b8))
              | replace AT := Lib.hid (Fr.belowAll AT.out (b8))
              | replace AT := Lib.hid (Own.belowAll AT.out (b8))
              | replace AT := Lib.hid (Grows.next AT.out (b8))
            first
              | replace AX := Lib.hid (Loc.At.belowAll AX.out (b8))
              | replace AX := Lib.hid (nextB AX.out (b8))
              | replace AX := Lib.hid (Boxed.keep AX.out (b8))
              | replace AX := Lib.hid (Dat.belowAll AX.out (b8))
              | replace AX := Lib.hid (Fr.belowAll AX.out (b8))
              | replace AX := Lib.hid (Own.belowAll AX.out (b8))
              | replace AX := Lib.hid (Grows.next AX.out (b8))
            clear b8
            go_wp2_with fail
            refine (lvTree_yes ⟨xa, xc, xs⟩ ⟨ta, tc, ts⟩ w8 AX.out AT.out (HXE.out.trans (HXT.out.trans HTE.out.symm))).mono ?_
            rintro e wz ⟨rfl, bz⟩
            first
              | replace B := Lib.hid (Loc.At.belowAll B.out (bz))
              | replace B := Lib.hid (nextB B.out (bz))
              | replace B := Lib.hid (Boxed.keep B.out (bz))
              | replace B := Lib.hid (Dat.belowAll B.out (bz))
              | replace B := Lib.hid (Fr.belowAll B.out (bz))
              | replace B := Lib.hid (Own.belowAll B.out (bz))
              | replace B := Lib.hid (Grows.next B.out (bz))
            clear bz
            go_wp2_with fail
            go_ret
            exact ⟨rfl, B.out⟩
          | true =>
            by_cases hgo : g = true ∧ ys.length = 0
            · obtain ⟨rfl, hy0⟩ := hgo
              have hko := writeZ_not HT.out HP.out
              have hof : ok = false := by rw [hko.1]; exact (by rw [write_can HT.out, HLY.out, hy0]; simp)
              have hXT := hko.2 hof
              subst hof
              have HXT := Lib.hid hXT
              clear hko hXT
              have hz : decide ((0 : Int) < (ys.length : Int)) = false := decide_eq_false (by omega)
              have hz2 : decide (0 < ys.length) = false := decide_eq_false (by omega)
              clear hsb hy0
              go_wp2_with fail
              refine HCS.out.mono ?_
              rintro e w8 ⟨rfl, b8⟩
              first
                | replace B := Lib.hid (Loc.At.belowAll B.out (b8))
                | replace B := Lib.hid (nextB B.out (b8))
                | replace B := Lib.hid (Boxed.keep B.out (b8))
                | replace B := Lib.hid (Dat.belowAll B.out (b8))
                | replace B := Lib.hid (Fr.belowAll B.out (b8))
                | replace B := Lib.hid (Own.belowAll B.out (b8))
                | replace B := Lib.hid (Grows.next B.out (b8))
              first
                | replace AT := Lib.hid (Loc.At.belowAll AT.out (b8))
                | replace AT := Lib.hid (nextB AT.out (b8))
                | replace AT := Lib.hid (Boxed.keep AT.out (b8))
                | replace AT := Lib.hid (Dat.belowAll AT.out (b8))
                | replace AT := Lib.hid (Fr.belowAll AT.out (b8))
                | replace AT := Lib.hid (Own.belowAll AT.out (b8))
                | replace AT := Lib.hid (Grows.next AT.out (b8))
              first
                | replace AX := Lib.hid (Loc.At.belowAll AX.out (b8))
                | replace AX := Lib.hid (nextB AX.out (b8))
                | replace AX := Lib.hid (Boxed.keep AX.out (b8))
                | replace AX := Lib.hid (Dat.belowAll AX.out (b8))
                | replace AX := Lib.hid (Fr.belowAll AX.out (b8))
                | replace AX := Lib.hid (Own.belowAll AX.out (b8))
                | replace AX := Lib.hid (Grows.next AX.out (b8))
              clear b8
              go_wp2_with fail
              refine (lvTree_yes ⟨xa, xc, xs⟩ ⟨ta, tc, ts⟩ w8 AX.out AT.out (HXE.out.trans (HXT.out.trans HTE.out.symm))).mono ?_
              rintro e wz ⟨rfl, bz⟩
              first
                | replace B := Lib.hid (Loc.At.belowAll B.out (bz))
                | replace B := Lib.hid (nextB B.out (bz))
                | replace B := Lib.hid (Boxed.keep B.out (bz))
                | replace B := Lib.hid (Dat.belowAll B.out (bz))
                | replace B := Lib.hid (Fr.belowAll B.out (bz))
                | replace B := Lib.hid (Own.belowAll B.out (bz))
                | replace B := Lib.hid (Grows.next B.out (bz))
              clear bz
              go_wp2_with fail
              go_ret
              exact ⟨rfl, B.out⟩
            · have hko := writeZ_not HT.out HP.out
              have hof : ok = true := by
                rw [hko.1, write_can HT.out, HNX.out, HGN.out, hsb, HLY.out]
                cases g
                · rfl
                · have : ¬ ys.length = 0 := fun h => hgo ⟨rfl, h⟩
                  simp [this]
              subst hof
              have hz : g = true → decide ((0 : Int) < (ys.length : Int)) = true := fun h => by
                have : ¬ ys.length = 0 := fun h0 => hgo ⟨h, h0⟩
                exact decide_eq_true (by omega)
              have hz2 : g = true → decide (0 < ys.length) = true := fun h => by
                have : ¬ ys.length = 0 := fun h0 => hgo ⟨h, h0⟩
                exact decide_eq_true (by omega)
              clear hsb hgo hko
              cases g
              case true =>
                have hza := hz rfl
                have hzb := hz2 rfl
                clear hz hz2
                go_wp2_with fail
                refine HCS.out.mono ?_
                rintro e w8 ⟨rfl, b8⟩
                first
                  | replace B := Lib.hid (Loc.At.belowAll B.out (b8))
                  | replace B := Lib.hid (nextB B.out (b8))
                  | replace B := Lib.hid (Boxed.keep B.out (b8))
                  | replace B := Lib.hid (Dat.belowAll B.out (b8))
                  | replace B := Lib.hid (Fr.belowAll B.out (b8))
                  | replace B := Lib.hid (Own.belowAll B.out (b8))
                  | replace B := Lib.hid (Grows.next B.out (b8))
                clear b8
                go_wp2_with fail
                go_ret
                exact ⟨rfl, B.out⟩
              case false =>
                clear hz hz2
                go_wp2_with fail
                refine HCS.out.mono ?_
                rintro e w8 ⟨rfl, b8⟩
                first
                  | replace B := Lib.hid (Loc.At.belowAll B.out (b8))
                  | replace B := Lib.hid (nextB B.out (b8))
                  | replace B := Lib.hid (Boxed.keep B.out (b8))
                  | replace B := Lib.hid (Dat.belowAll B.out (b8))
                  | replace B := Lib.hid (Fr.belowAll B.out (b8))
                  | replace B := Lib.hid (Own.belowAll B.out (b8))
                  | replace B := Lib.hid (Grows.next B.out (b8))
                clear b8
                go_wp2_with fail
                go_ret
                exact ⟨rfl, B.out⟩
    · have hz : decide ((0 : Int) < (ys.length : Int)) = true := decide_eq_true (by omega)
      have hz2 : decide (0 < ys.length) = true := decide_eq_true (by omega)
      have HSO : Hid (SibsOK (ys.map LSib.er)) := Lib.hid (by
        rw [HYE.out]
        refine (atL_ok HT.out n).resolve_left (fun h => hy0 ?_)
        have h2 := HYE.out
        rw [h] at h2
        simpa using h2)
      clear hy0
      go_wp2_with fail
      clear hz hz2
      generalize w6.alloc (Obj.cells #[.int .i64 0, .int .i64 0, .int .i64 0] 3) = wu at *
      refine (iSibsVv_any ⟨ya, yc, ys⟩ wu AY.out HSO.out).mono ?_
      rintro e wv ⟨⟨na, nc, ns⟩, rfl, hn, hnA, -, bv⟩
      have HNE := Lib.hid (show ns = vvOf (atL n T) by rw [← HYE.out]; exact hn)
      have ANN := Lib.hid hnA
      first
        | replace B := Lib.hid (Loc.At.belowAll B.out (bv))
        | replace B := Lib.hid (nextB B.out (bv))
        | replace B := Lib.hid (Boxed.keep B.out (bv))
        | replace B := Lib.hid (Dat.belowAll B.out (bv))
        | replace B := Lib.hid (Fr.belowAll B.out (bv))
        | replace B := Lib.hid (Own.belowAll B.out (bv))
        | replace B := Lib.hid (Grows.next B.out (bv))
      first
        | replace AT := Lib.hid (Loc.At.belowAll AT.out (bv))
        | replace AT := Lib.hid (nextB AT.out (bv))
        | replace AT := Lib.hid (Boxed.keep AT.out (bv))
        | replace AT := Lib.hid (Dat.belowAll AT.out (bv))
        | replace AT := Lib.hid (Fr.belowAll AT.out (bv))
        | replace AT := Lib.hid (Own.belowAll AT.out (bv))
        | replace AT := Lib.hid (Grows.next AT.out (bv))
      first
        | replace AX := Lib.hid (Loc.At.belowAll AX.out (bv))
        | replace AX := Lib.hid (nextB AX.out (bv))
        | replace AX := Lib.hid (Boxed.keep AX.out (bv))
        | replace AX := Lib.hid (Dat.belowAll AX.out (bv))
        | replace AX := Lib.hid (Fr.belowAll AX.out (bv))
        | replace AX := Lib.hid (Own.belowAll AX.out (bv))
        | replace AX := Lib.hid (Grows.next AX.out (bv))
      clear hn hnA bv
      simp only [Loc.val]
      go_wp2_with fail
      refine (vvNext_any ⟨na, nc, ns⟩ site wv ANN.out HSI.out).mono ?_
      rintro e w7 ⟨⟨qa, qc, qs⟩, rfl, -, -, -, b7⟩
      have AN := Lib.hid ANN.out
      first
        | replace B := Lib.hid (Loc.At.belowAll B.out (b7))
        | replace B := Lib.hid (nextB B.out (b7))
        | replace B := Lib.hid (Boxed.keep B.out (b7))
        | replace B := Lib.hid (Dat.belowAll B.out (b7))
        | replace B := Lib.hid (Fr.belowAll B.out (b7))
        | replace B := Lib.hid (Own.belowAll B.out (b7))
        | replace B := Lib.hid (Grows.next B.out (b7))
      first
        | replace AT := Lib.hid (Loc.At.belowAll AT.out (b7))
        | replace AT := Lib.hid (nextB AT.out (b7))
        | replace AT := Lib.hid (Boxed.keep AT.out (b7))
        | replace AT := Lib.hid (Dat.belowAll AT.out (b7))
        | replace AT := Lib.hid (Fr.belowAll AT.out (b7))
        | replace AT := Lib.hid (Own.belowAll AT.out (b7))
        | replace AT := Lib.hid (Grows.next AT.out (b7))
      first
        | replace AX := Lib.hid (Loc.At.belowAll AX.out (b7))
        | replace AX := Lib.hid (nextB AX.out (b7))
        | replace AX := Lib.hid (Boxed.keep AX.out (b7))
        | replace AX := Lib.hid (Dat.belowAll AX.out (b7))
        | replace AX := Lib.hid (Fr.belowAll AX.out (b7))
        | replace AX := Lib.hid (Own.belowAll AX.out (b7))
        | replace AX := Lib.hid (Grows.next AX.out (b7))
      first
        | replace AN := Lib.hid (Loc.At.belowAll AN.out (b7))
        | replace AN := Lib.hid (nextB AN.out (b7))
        | replace AN := Lib.hid (Boxed.keep AN.out (b7))
        | replace AN := Lib.hid (Dat.belowAll AN.out (b7))
        | replace AN := Lib.hid (Fr.belowAll AN.out (b7))
        | replace AN := Lib.hid (Own.belowAll AN.out (b7))
        | replace AN := Lib.hid (Grows.next AN.out (b7))
      clear b7
      have hns : nextOK ns site = nextOK (vvOf (atL n T)) site := by rw [HNE.out]
      simp only [hns]
      clear hns
      cases hnx : nextOK (vvOf (atL n T)) site with
      | false =>
        have hko := writeZ_not HT.out HP.out
        have hof : ok = false := by rw [hko.1]; exact (by rw [write_can HT.out, hnx]; rfl)
        have hXT := hko.2 hof
        subst hof
        have HXT := Lib.hid hXT
        clear hko hXT
        clear hnx
        go_wp2_with fail
        refine (lvTree_yes ⟨xa, xc, xs⟩ ⟨ta, tc, ts⟩ w7 AX.out AT.out (HXE.out.trans (HXT.out.trans HTE.out.symm))).mono ?_
        rintro e wz ⟨rfl, bz⟩
        first
          | replace B := Lib.hid (Loc.At.belowAll B.out (bz))
          | replace B := Lib.hid (nextB B.out (bz))
          | replace B := Lib.hid (Boxed.keep B.out (bz))
          | replace B := Lib.hid (Dat.belowAll B.out (bz))
          | replace B := Lib.hid (Fr.belowAll B.out (bz))
          | replace B := Lib.hid (Own.belowAll B.out (bz))
          | replace B := Lib.hid (Grows.next B.out (bz))
        clear bz
        go_wp2_with fail
        go_ret
        exact ⟨rfl, B.out⟩
      | true =>
        by_cases hG : n = ⟨#[71]⟩
        · skip
          have hko := writeZ_not HT.out HP.out
          have hof : ok = false := by rw [hko.1]; exact (by rw [write_can HT.out, sixN_name HNM.out, hG]; simp)
          have hXT := hko.2 hof
          subst hof
          have HXT := Lib.hid hXT
          clear hko hXT
          have hg1 : (n.toList == [71]) = true := by rw [hG, G_list]; rfl
          clear hnx hG
          go_wp2_with fail
          refine (lvTree_yes ⟨xa, xc, xs⟩ ⟨ta, tc, ts⟩ w7 AX.out AT.out (HXE.out.trans (HXT.out.trans HTE.out.symm))).mono ?_
          rintro e wz ⟨rfl, bz⟩
          first
            | replace B := Lib.hid (Loc.At.belowAll B.out (bz))
            | replace B := Lib.hid (nextB B.out (bz))
            | replace B := Lib.hid (Boxed.keep B.out (bz))
            | replace B := Lib.hid (Dat.belowAll B.out (bz))
            | replace B := Lib.hid (Fr.belowAll B.out (bz))
            | replace B := Lib.hid (Own.belowAll B.out (bz))
            | replace B := Lib.hid (Grows.next B.out (bz))
          clear bz
          go_wp2_with fail
          go_ret
          exact ⟨rfl, B.out⟩
        · have hg1 : (n.toList == [71]) = false := by
            rw [beq_eq_false_iff_ne]; exact fun h => hG (toList_inj.1 (h.trans G_list.symm))
          have HNX := Lib.hid hnx
          have HGN := Lib.hid (show nameB n = true by rw [sixN_name HNM.out]; simp [hG])
          have HSE : Hid (LSib.er ⟨⟨na, nc, ns⟩, g, s⟩ = ⟨vvOf (atL n T), g, s⟩) := Lib.hid (by simp only [LSib.er, ← HNE.out])
          clear hnx hG
          have HCS := Lib.hid (iSibOk_any ⟨⟨na, nc, ns⟩, g, s⟩ w7 ⟨AN.out, HST.out⟩)
          rw [HSE.out] at HCS
          generalize hsb : sibB ⟨vvOf (atL n T), g, s⟩ = sb at HCS
          cases sb with
          | false =>
            have hko := writeZ_not HT.out HP.out
            have hof : ok = false := by rw [hko.1]; exact (by rw [write_can HT.out, hsb]; simp)
            have hXT := hko.2 hof
            subst hof
            have HXT := Lib.hid hXT
            clear hko hXT
            clear hsb
            go_wp2_with fail
            refine HCS.out.mono ?_
            rintro e w8 ⟨rfl, b8⟩
            first
              | replace B := Lib.hid (Loc.At.belowAll B.out (b8))
              | replace B := Lib.hid (nextB B.out (b8))
              | replace B := Lib.hid (Boxed.keep B.out (b8))
              | replace B := Lib.hid (Dat.belowAll B.out (b8))
              | replace B := Lib.hid (Fr.belowAll B.out (b8))
              | replace B := Lib.hid (Own.belowAll B.out (b8))
              | replace B := Lib.hid (Grows.next B.out (b8))
            first
              | replace AT := Lib.hid (Loc.At.belowAll AT.out (b8))
              | replace AT := Lib.hid (nextB AT.out (b8))
              | replace AT := Lib.hid (Boxed.keep AT.out (b8))
              | replace AT := Lib.hid (Dat.belowAll AT.out (b8))
              | replace AT := Lib.hid (Fr.belowAll AT.out (b8))
              | replace AT := Lib.hid (Own.belowAll AT.out (b8))
              | replace AT := Lib.hid (Grows.next AT.out (b8))
            first
              | replace AX := Lib.hid (Loc.At.belowAll AX.out (b8))
              | replace AX := Lib.hid (nextB AX.out (b8))
              | replace AX := Lib.hid (Boxed.keep AX.out (b8))
              | replace AX := Lib.hid (Dat.belowAll AX.out (b8))
              | replace AX := Lib.hid (Fr.belowAll AX.out (b8))
              | replace AX := Lib.hid (Own.belowAll AX.out (b8))
              | replace AX := Lib.hid (Grows.next AX.out (b8))
            clear b8
            go_wp2_with fail
            refine (lvTree_yes ⟨xa, xc, xs⟩ ⟨ta, tc, ts⟩ w8 AX.out AT.out (HXE.out.trans (HXT.out.trans HTE.out.symm))).mono ?_
            rintro e wz ⟨rfl, bz⟩
            first
              | replace B := Lib.hid (Loc.At.belowAll B.out (bz))
              | replace B := Lib.hid (nextB B.out (bz))
              | replace B := Lib.hid (Boxed.keep B.out (bz))
              | replace B := Lib.hid (Dat.belowAll B.out (bz))
              | replace B := Lib.hid (Fr.belowAll B.out (bz))
              | replace B := Lib.hid (Own.belowAll B.out (bz))
              | replace B := Lib.hid (Grows.next B.out (bz))
            clear bz
            go_wp2_with fail
            go_ret
            exact ⟨rfl, B.out⟩
          | true =>
            by_cases hgo : g = true ∧ ys.length = 0
            · obtain ⟨rfl, hy0⟩ := hgo
              have hko := writeZ_not HT.out HP.out
              have hof : ok = false := by rw [hko.1]; exact (by rw [write_can HT.out, HLY.out, hy0]; simp)
              have hXT := hko.2 hof
              subst hof
              have HXT := Lib.hid hXT
              clear hko hXT
              have hz : decide ((0 : Int) < (ys.length : Int)) = false := decide_eq_false (by omega)
              have hz2 : decide (0 < ys.length) = false := decide_eq_false (by omega)
              clear hsb hy0
              go_wp2_with fail
              refine HCS.out.mono ?_
              rintro e w8 ⟨rfl, b8⟩
              first
                | replace B := Lib.hid (Loc.At.belowAll B.out (b8))
                | replace B := Lib.hid (nextB B.out (b8))
                | replace B := Lib.hid (Boxed.keep B.out (b8))
                | replace B := Lib.hid (Dat.belowAll B.out (b8))
                | replace B := Lib.hid (Fr.belowAll B.out (b8))
                | replace B := Lib.hid (Own.belowAll B.out (b8))
                | replace B := Lib.hid (Grows.next B.out (b8))
              first
                | replace AT := Lib.hid (Loc.At.belowAll AT.out (b8))
                | replace AT := Lib.hid (nextB AT.out (b8))
                | replace AT := Lib.hid (Boxed.keep AT.out (b8))
                | replace AT := Lib.hid (Dat.belowAll AT.out (b8))
                | replace AT := Lib.hid (Fr.belowAll AT.out (b8))
                | replace AT := Lib.hid (Own.belowAll AT.out (b8))
                | replace AT := Lib.hid (Grows.next AT.out (b8))
              first
                | replace AX := Lib.hid (Loc.At.belowAll AX.out (b8))
                | replace AX := Lib.hid (nextB AX.out (b8))
                | replace AX := Lib.hid (Boxed.keep AX.out (b8))
                | replace AX := Lib.hid (Dat.belowAll AX.out (b8))
                | replace AX := Lib.hid (Fr.belowAll AX.out (b8))
                | replace AX := Lib.hid (Own.belowAll AX.out (b8))
                | replace AX := Lib.hid (Grows.next AX.out (b8))
              clear b8
              go_wp2_with fail
              refine (lvTree_yes ⟨xa, xc, xs⟩ ⟨ta, tc, ts⟩ w8 AX.out AT.out (HXE.out.trans (HXT.out.trans HTE.out.symm))).mono ?_
              rintro e wz ⟨rfl, bz⟩
              first
                | replace B := Lib.hid (Loc.At.belowAll B.out (bz))
                | replace B := Lib.hid (nextB B.out (bz))
                | replace B := Lib.hid (Boxed.keep B.out (bz))
                | replace B := Lib.hid (Dat.belowAll B.out (bz))
                | replace B := Lib.hid (Fr.belowAll B.out (bz))
                | replace B := Lib.hid (Own.belowAll B.out (bz))
                | replace B := Lib.hid (Grows.next B.out (bz))
              clear bz
              go_wp2_with fail
              go_ret
              exact ⟨rfl, B.out⟩
            · have hko := writeZ_not HT.out HP.out
              have hof : ok = true := by
                rw [hko.1, write_can HT.out, HNX.out, HGN.out, hsb, HLY.out]
                cases g
                · rfl
                · have : ¬ ys.length = 0 := fun h => hgo ⟨rfl, h⟩
                  simp [this]
              subst hof
              have hz : g = true → decide ((0 : Int) < (ys.length : Int)) = true := fun h => by
                have : ¬ ys.length = 0 := fun h0 => hgo ⟨h, h0⟩
                exact decide_eq_true (by omega)
              have hz2 : g = true → decide (0 < ys.length) = true := fun h => by
                have : ¬ ys.length = 0 := fun h0 => hgo ⟨h, h0⟩
                exact decide_eq_true (by omega)
              clear hsb hgo hko
              cases g
              case true =>
                have hza := hz rfl
                have hzb := hz2 rfl
                clear hz hz2
                go_wp2_with fail
                refine HCS.out.mono ?_
                rintro e w8 ⟨rfl, b8⟩
                first
                  | replace B := Lib.hid (Loc.At.belowAll B.out (b8))
                  | replace B := Lib.hid (nextB B.out (b8))
                  | replace B := Lib.hid (Boxed.keep B.out (b8))
                  | replace B := Lib.hid (Dat.belowAll B.out (b8))
                  | replace B := Lib.hid (Fr.belowAll B.out (b8))
                  | replace B := Lib.hid (Own.belowAll B.out (b8))
                  | replace B := Lib.hid (Grows.next B.out (b8))
                clear b8
                go_wp2_with fail
                go_ret
                exact ⟨rfl, B.out⟩
              case false =>
                clear hz hz2
                go_wp2_with fail
                refine HCS.out.mono ?_
                rintro e w8 ⟨rfl, b8⟩
                first
                  | replace B := Lib.hid (Loc.At.belowAll B.out (b8))
                  | replace B := Lib.hid (nextB B.out (b8))
                  | replace B := Lib.hid (Boxed.keep B.out (b8))
                  | replace B := Lib.hid (Dat.belowAll B.out (b8))
                  | replace B := Lib.hid (Fr.belowAll B.out (b8))
                  | replace B := Lib.hid (Own.belowAll B.out (b8))
                  | replace B := Lib.hid (Grows.next B.out (b8))
                clear b8
                go_wp2_with fail
                go_ret
                exact ⟨rfl, B.out⟩
end Go.Proofs.YtdidkfadiaafiaaDoor
