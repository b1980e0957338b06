/- The walk of FnWriteApart. -/
import Derived.Test.YtdidkfadiaafiaaGreatDoorMergeKit
namespace Go.Proofs.YtdidkfadiaafiaaGreatDoor
open Go Go.RowKit

set_option maxRecDepth 100000 in
set_option maxHeartbeats 2000000 in
theorem lvHas_yes (x : Loc LSib) (s : LSib) (w : World) (hx : x.At w) (hs : Dat.At w s) (hin : s.er ∈ x.xs.map LSib.er) :
    Calls Tryz.prog 22 #[x.val, s.val] w fun e w' => e = .returned (.bool true) ∧ Below w.heap.size w w' := by
  obtain ⟨xa, xc, xs⟩ := x
  have h1 := hx.lenMax
  simp only at h1 hin
  have HIN := Lib.hid hin
  have hb0 : Below w.heap.size w (w.alloc (Obj.cells #[s.vv.val, Value.bool s.gone, Value.string s.text] 42)) := (Below.refl _ _).alloc (Nat.le_refl _) _
  have HX := Lib.hid (hx.belowAll hb0)
  have HS := Lib.hid (Dat.belowAll hs hb0)
  have BX := Lib.hid (Boxed.new w #[s.vv.val, Value.bool s.gone, Value.string s.text] 42)
  have B0 := Lib.hid hb0
  clear hx hs hin hb0
  obtain ⟨sv, sg, st⟩ := s
  simp only [Loc.val, LSib.val] at *
  go_enter Tryz.func22, Tryz.ntmps22
  go_wp2_with fail
  generalize w.alloc (Obj.cells #[.slice sv.a sv.xs.length sv.cap, Value.bool sg, Value.string st] 42) = W0 at *
  go_loopw [5] (fun i wr => ∃ k : Nat, k ≤ xs.length ∧ i = .int .i64 k ∧ (∀ j (h : j < xs.length), j < k → xs[j].er ≠ LSib.er ⟨sv, sg, st⟩) ∧ Below W0.heap.size W0 wr) (fun i _ => xs.length - (intOf i).toNat)
  case atStart => exact ⟨0, Nat.zero_le _, rfl, fun j _ h => absurd h (by omega), Below.refl _ _⟩
  case round =>
    obtain ⟨k, hk, rfl, hne, hb⟩ := hrel
    have HNE := Lib.hid hne
    have HB := Lib.hid hb
    clear hne hb
    by_cases hlt : k < xs.length
    · obtain ⟨a, ao, ha⟩ := HX.out.place hlt
      simp only at ha
      subst ha
      have HF : Hid (∀ w', Below wr.heap.size wr w' → (w'.cell? ⟨a, ao + k * 3, none⟩ = some xs[k].vv.val ∧ w'.cell? ⟨a, ao + k * 3 + 1, none⟩ = some (.bool xs[k].gone) ∧ w'.cell? ⟨a, ao + k * 3 + 2, none⟩ = some (.string xs[k].text)) ∧
          (w'.cell? ⟨w.heap.size, 0, none⟩ = some (.slice sv.a sv.xs.length sv.cap) ∧ w'.cell? ⟨w.heap.size, 1, none⟩ = some (.bool sg) ∧ w'.cell? ⟨w.heap.size, 2, none⟩ = some (.string st))) := Lib.hid (fun w' h => by
        have h2 := BX.out.keep (nextB HB.out h)
        exact ⟨(HX.out.belowAll (nextB HB.out h)).sib rfl hlt, h2.2 0 _ rfl, h2.2 1 _ rfl, h2.2 2 _ rfl⟩)
      obtain ⟨q, hq⟩ : ∃ q, decide (xs[k].er = LSib.er ⟨sv, sg, st⟩) = q := ⟨_, rfl⟩
      have HQ := Lib.hid hq
      clear hq
      have HC : Hid (∀ w', Below wr.heap.size wr w' → Calls Tryz.prog 53 #[xs[k].val, LSib.val ⟨sv, sg, st⟩] w' fun e w'' => e = .returned (.bool q) ∧ Below w'.heap.size w' w'') := Lib.hid (fun w' h => by
        have h2 := HX.out.belowAll (nextB HB.out h)
        refine (lvSib_any xs[k] ⟨sv, sg, st⟩ w' (h2.elem (List.getElem_mem hlt)) (Dat.belowAll HS.out (nextB HB.out h))).mono fun e w'' ⟨⟨v, he, hv⟩, hb⟩ => ⟨?_, hb⟩
        rw [he, ← HQ.out]
        congr 2
        rw [Bool.eq_iff_iff, hv]; simp)
      simp only [LSib.val, Loc.val] at HC HF
      go_wp2_with fail
      refine wp_region_inv 6 (by kernel_rfl) (by kernel_rfl) (fun w' => Below wr.heap.size wr w') (Below.refl _ _).drew ?_
      simp only [List.take_succ_cons, List.take_zero, List.drop_succ_cons, List.drop_zero]
      refine' wpInv_step (by rfl) (fun w' hI => ?_) ?_
      rotate_left
      · have hf := HF.out w' hI
        unfold invAt
        go_simp
        first | exact rfl | exact ⟨rfl, hI⟩
      simp only [Act.put, List.setIfInBounds_toArray, List.set_cons_zero, List.set_cons_succ]
      refine' wpInv_step (by rfl) (fun w' hI => ?_) ?_
      rotate_left
      · have hf := HF.out w' hI
        unfold invAt
        go_simp
        first | exact rfl | exact ⟨rfl, hI⟩
      simp only [Act.put, List.setIfInBounds_toArray, List.set_cons_zero, List.set_cons_succ]
      refine' wpInv_step (by rfl) (fun w' hI => ?_) ?_
      rotate_left
      · have hf := HF.out w' hI
        unfold invAt
        go_simp
        first | exact rfl | exact ⟨rfl, hI⟩
      simp only [Act.put, List.setIfInBounds_toArray, List.set_cons_zero, List.set_cons_succ]
      refine' wpInv_step (by rfl) (fun w' hI => ?_) ?_
      rotate_left
      · have hf := HF.out w' hI
        unfold invAt
        go_simp
        first | exact rfl | exact ⟨rfl, hI⟩
      simp only [Act.put, List.setIfInBounds_toArray, List.set_cons_zero, List.set_cons_succ]
      refine' wpInv_step (by rfl) (fun w' hI => ?_) ?_
      rotate_left
      · have hf := HF.out w' hI
        unfold invAt
        go_simp
        first | exact rfl | exact ⟨rfl, hI⟩
      simp only [Act.put, List.setIfInBounds_toArray, List.set_cons_zero, List.set_cons_succ]
      refine' wpInv_step (by rfl) (fun w' hI => ?_) ?_
      rotate_left
      · have hf := HF.out w' hI
        unfold invAt
        go_simp
        clear hf
        refine (HC.out w' hI).mono ?_
        rintro e w'' ⟨rfl, hb2⟩
        exact ⟨rfl, hI.trans (hb2.mono hI.size)⟩
      simp only [Act.put, List.setIfInBounds_toArray, List.set_cons_zero, List.set_cons_succ]
      intro w1 hI
      replace HB := Lib.hid (nextB HB.out hI)
      clear hI HF HC
      cases q with
      | true =>
        go_wp2_with fail
        go_ret
        exact ⟨rfl, nextB B0.out HB.out⟩
      | false =>
        go_wp2_with fail
        go_roundw
        case rel =>
          refine ⟨k + 1, by omega, by go_num, fun j hj hjk => ?_, HB.out⟩
          by_cases hjk2 : j < k
          · exact HNE.out j hj hjk2
          · obtain rfl : j = k := by omega
            exact of_decide_eq_false HQ.out
        case measure => simp [intOf]; omega
    · exfalso
      obtain ⟨s, hs, he⟩ := List.mem_map.1 HIN.out
      obtain ⟨j, hj, rfl⟩ := List.getElem_of_mem hs
      exact HNE.out j hj (by omega) he

set_option maxRecDepth 100000 in
set_option maxHeartbeats 4000000 in
theorem writeApart_walk (x y : Loc UInt8) (w : World) (hx : x.At w) (hy : y.At w) :
    Calls Tryz.prog 6 #[x.val, y.val] w fun e w' => e = .returned (.bool true) ∧ Below w.heap.size w w' := by
  have h1 := hx.lenMax
  have h2 := hy.lenMax
  have HX0 := Lib.hid hx
  clear hx hy
  by_cases hbig : (1048576 : Int) < (x.xs.length : Int)
  · obtain ⟨xa, xc, xs⟩ := x
    obtain ⟨ya, yc, ys⟩ := y
    simp only [Loc.val] at hbig ⊢
    go_enter Tryz.func6, Tryz.ntmps6
    go_wp2_with fail
    go_ret
    exact ⟨rfl, Below.refl _ _⟩
  by_cases hbig2 : (1048576 : Int) < (y.xs.length : Int)
  · obtain ⟨xa, xc, xs⟩ := x
    obtain ⟨ya, yc, ys⟩ := y
    simp only [Loc.val] at hbig hbig2 ⊢
    go_enter Tryz.func6, Tryz.ntmps6
    go_wp2_with fail
    go_ret
    exact ⟨rfl, Below.refl _ _⟩
  have hc := Lib.hid (drawTreeWrite_any x w HX0.out)
  obtain ⟨ua, uc, us⟩ := x
  obtain ⟨ma, mc, ms⟩ := y
  simp only [Loc.val] at hbig hbig2 hc ⊢
  go_enter Tryz.func6, Tryz.ntmps6
  go_wp2_with fail
  refine hc.out.mono ?_
  rintro e w1 ⟨⟨ta, tc, ts⟩, site, n, g, s, rfl, h5, hs1, hs6, hnm, hst, hA, b1⟩
  have HNM := Lib.hid (show n ∈ sixN from hnm)
  have HN : Hid (n.size ≤ maxLen) := Lib.hid (by have := sixN_size HNM.out; simp only [maxLen]; omega)
  have HST : Hid (s.size ≤ maxLen) := Lib.hid (by simp only [maxLen]; omega)
  have HSI : Hid (-9223372036854775808 ≤ site ∧ site ≤ 9223372036854775807) := Lib.hid (by omega)
  have B := Lib.hid b1
  have AT := Lib.hid hA
  obtain ⟨T, hT⟩ : ∃ T, ts.map LFile.er = T := ⟨_, rfl⟩
  have HTE := Lib.hid hT
  obtain ⟨⟨X, ok⟩, hP⟩ : ∃ P, writeZ T site n g s = P := ⟨_, rfl⟩
  have HP := Lib.hid hP
  clear hc hnm hst hA b1 hP hT h5
  simp only [Loc.val]
  go_wp2_with fail
  refine (sTreeWrite_any ⟨ta, tc, ts⟩ site n g s w1 AT.out HSI.out HN.out HST.out).mono ?_
  rw [HTE.out, HP.out]
  rintro e w2 ⟨⟨va, vc, vs⟩, rfl, hv, hvA, b2⟩
  have HVE := Lib.hid hv
  have AV := Lib.hid hvA
  first
    | replace B := Lib.hid (Loc.At.belowAll B.out (b2))
    | replace B := Lib.hid (nextB B.out (b2))
    | replace B := Lib.hid (Boxed.keep B.out (b2))
    | replace B := Lib.hid (Dat.belowAll B.out (b2))
    | replace B := Lib.hid (Fr.belowAll B.out (b2))
    | replace B := Lib.hid (Own.belowAll B.out (b2))
    | replace B := Lib.hid (Grows.next B.out (b2))
  first
    | replace AT := Lib.hid (Loc.At.belowAll AT.out (b2))
    | replace AT := Lib.hid (nextB AT.out (b2))
    | replace AT := Lib.hid (Boxed.keep AT.out (b2))
    | replace AT := Lib.hid (Dat.belowAll AT.out (b2))
    | replace AT := Lib.hid (Fr.belowAll AT.out (b2))
    | replace AT := Lib.hid (Own.belowAll AT.out (b2))
    | replace AT := Lib.hid (Grows.next AT.out (b2))
  clear hv hvA b2
  simp only [Loc.val]
  go_wp2_with fail
  refine (iTreeWrite_any ⟨ta, tc, ts⟩ site n g s w2 AT.out HSI.out HN.out HST.out).mono ?_
  rw [HTE.out, HP.out]
  rintro e w3 ⟨⟨xa, xc, xs⟩, rfl, hx, hxA, -, b3⟩
  have HXE := Lib.hid (show xs.map LFile.er = X from hx)
  have AX := Lib.hid hxA
  first
    | replace B := Lib.hid (Loc.At.belowAll B.out (b3))
    | replace B := Lib.hid (nextB B.out (b3))
    | replace B := Lib.hid (Boxed.keep B.out (b3))
    | replace B := Lib.hid (Dat.belowAll B.out (b3))
    | replace B := Lib.hid (Fr.belowAll B.out (b3))
    | replace B := Lib.hid (Own.belowAll B.out (b3))
    | replace B := Lib.hid (Grows.next B.out (b3))
  first
    | replace AT := Lib.hid (Loc.At.belowAll AT.out (b3))
    | replace AT := Lib.hid (nextB AT.out (b3))
    | replace AT := Lib.hid (Boxed.keep AT.out (b3))
    | replace AT := Lib.hid (Dat.belowAll AT.out (b3))
    | replace AT := Lib.hid (Fr.belowAll AT.out (b3))
    | replace AT := Lib.hid (Own.belowAll AT.out (b3))
    | replace AT := Lib.hid (Grows.next AT.out (b3))
  first
    | replace AV := Lib.hid (Loc.At.belowAll AV.out (b3))
    | replace AV := Lib.hid (nextB AV.out (b3))
    | replace AV := Lib.hid (Boxed.keep AV.out (b3))
    | replace AV := Lib.hid (Dat.belowAll AV.out (b3))
    | replace AV := Lib.hid (Fr.belowAll AV.out (b3))
    | replace AV := Lib.hid (Own.belowAll AV.out (b3))
    | replace AV := Lib.hid (Grows.next AV.out (b3))
  clear hx hxA b3
  have hbb : (ok != ok) = false := by simp
  have hbe : (ok == ok) = true := by simp
  have HXV : Hid ((⟨xa, xc, xs⟩ : Loc LFile).xs.map LFile.er = (⟨va, vc, vs⟩ : Loc LFile).xs.map LFile.er) := Lib.hid (HXE.out.trans HVE.out.symm)
  simp only [Loc.val]
  go_wp2_with fail
  refine (lvTree_yes ⟨xa, xc, xs⟩ ⟨va, vc, vs⟩ w3 AX.out AV.out HXV.out).mono ?_
  rintro e w4 ⟨rfl, b4⟩
  first
    | replace B := Lib.hid (Loc.At.belowAll B.out (b4))
    | replace B := Lib.hid (nextB B.out (b4))
    | replace B := Lib.hid (Boxed.keep B.out (b4))
    | replace B := Lib.hid (Dat.belowAll B.out (b4))
    | replace B := Lib.hid (Fr.belowAll B.out (b4))
    | replace B := Lib.hid (Own.belowAll B.out (b4))
    | replace B := Lib.hid (Grows.next B.out (b4))
  first
    | replace AT := Lib.hid (Loc.At.belowAll AT.out (b4))
    | replace AT := Lib.hid (nextB AT.out (b4))
    | replace AT := Lib.hid (Boxed.keep AT.out (b4))
    | replace AT := Lib.hid (Dat.belowAll AT.out (b4))
    | replace AT := Lib.hid (Fr.belowAll AT.out (b4))
    | replace AT := Lib.hid (Own.belowAll AT.out (b4))
    | replace AT := Lib.hid (Grows.next AT.out (b4))
  first
    | replace AV := Lib.hid (Loc.At.belowAll AV.out (b4))
    | replace AV := Lib.hid (nextB AV.out (b4))
    | replace AV := Lib.hid (Boxed.keep AV.out (b4))
    | replace AV := Lib.hid (Dat.belowAll AV.out (b4))
    | replace AV := Lib.hid (Fr.belowAll AV.out (b4))
    | replace AV := Lib.hid (Own.belowAll AV.out (b4))
    | replace AV := Lib.hid (Grows.next AV.out (b4))
  first
    | replace AX := Lib.hid (Loc.At.belowAll AX.out (b4))
    | replace AX := Lib.hid (nextB AX.out (b4))
    | replace AX := Lib.hid (Boxed.keep AX.out (b4))
    | replace AX := Lib.hid (Dat.belowAll AX.out (b4))
    | replace AX := Lib.hid (Fr.belowAll AX.out (b4))
    | replace AX := Lib.hid (Own.belowAll AX.out (b4))
    | replace AX := Lib.hid (Grows.next AX.out (b4))
  clear b4
  cases ok with
  | false =>
    go_wp2_with fail
    refine (lvTree_yes ⟨xa, xc, xs⟩ ⟨va, vc, vs⟩ w4 AX.out AV.out HXV.out).mono ?_
    rintro e w9 ⟨rfl, b9⟩
    first
      | replace B := Lib.hid (Loc.At.belowAll B.out (b9))
      | replace B := Lib.hid (nextB B.out (b9))
      | replace B := Lib.hid (Boxed.keep B.out (b9))
      | replace B := Lib.hid (Dat.belowAll B.out (b9))
      | replace B := Lib.hid (Fr.belowAll B.out (b9))
      | replace B := Lib.hid (Own.belowAll B.out (b9))
      | replace B := Lib.hid (Grows.next B.out (b9))
    clear b9
    go_wp2_with fail
    go_ret
    exact ⟨rfl, B.out⟩
  | true =>
    have HWO := Lib.hid (writeZ_ok HP.out)
    have HT := Lib.hid HWO.out.1
    have HX := Lib.hid (show X = writeT T site n g s from HWO.out.2.2)
    have HXT := Lib.hid (show TreeOK X by rw [HX.out]; exact write_tree HT.out HWO.out.2.1)
    obtain ⟨j, hj⟩ : ∃ j : Int, j = (ms.length : Int).tmod 2 := ⟨_, rfl⟩
    have hj1 : 0 ≤ j ∧ j < 2 := by rw [hj, Int.tmod_eq_emod_of_nonneg (by omega)]; omega
    have hjt : (ms.length : Int).tmod 2 = j := hj.symm
    have hjw : IntKind.i64.wrap j = j := IntWalk.i64_in _ (by omega)
    have hs17 : 1 ≤ site ∧ site ≤ 6 := ⟨hs1, hs6⟩
    have hjw2 : IntKind.i64.wrap (site + j) = site + j := IntWalk.i64_in _ (by omega)
    obtain ⟨o, ho⟩ : ∃ o : Int, o = (site + j).tmod 3 := ⟨_, rfl⟩
    have ho1 : 0 ≤ o ∧ o < 3 := by rw [ho, Int.tmod_eq_emod_of_nonneg (by omega)]; omega
    have hot : (site + j).tmod 3 = o := ho.symm
    have how : IntKind.i64.wrap o = o := IntWalk.i64_in _ (by omega)
    have how2 : IntKind.i64.wrap (o + 1) = o + 1 := IntWalk.i64_in _ (by omega)
    have HJ := Lib.hid ho1
    clear ho hj
    go_wp2_with fail
    obtain ⟨⟨Y, two⟩, hP2⟩ : ∃ P, writeZ T (o + 1) n false ⟨#[99, 100]⟩ = P := ⟨_, rfl⟩
    have HP2 := Lib.hid hP2
    clear hP2
    refine (iTreeWrite_any ⟨ta, tc, ts⟩ (o + 1) n false ⟨#[99, 100]⟩ w4 AT.out (by have := HJ.out; omega) HN.out (by decide)).mono ?_
    rw [show (⟨ta, tc, ts⟩ : Loc LFile).xs.map LFile.er = T from HTE.out, HP2.out]
    rintro e w5 ⟨⟨ya, yc, ys⟩, rfl, hy, hyA, -, b5⟩
    have HYE := Lib.hid (show ys.map LFile.er = Y from hy)
    have AY := Lib.hid hyA
    first
      | replace B := Lib.hid (Loc.At.belowAll B.out (b5))
      | replace B := Lib.hid (nextB B.out (b5))
      | replace B := Lib.hid (Boxed.keep B.out (b5))
      | replace B := Lib.hid (Dat.belowAll B.out (b5))
      | replace B := Lib.hid (Fr.belowAll B.out (b5))
      | replace B := Lib.hid (Own.belowAll B.out (b5))
      | replace B := Lib.hid (Grows.next B.out (b5))
    first
      | replace AX := Lib.hid (Loc.At.belowAll AX.out (b5))
      | replace AX := Lib.hid (nextB AX.out (b5))
      | replace AX := Lib.hid (Boxed.keep AX.out (b5))
      | replace AX := Lib.hid (Dat.belowAll AX.out (b5))
      | replace AX := Lib.hid (Fr.belowAll AX.out (b5))
      | replace AX := Lib.hid (Own.belowAll AX.out (b5))
      | replace AX := Lib.hid (Grows.next AX.out (b5))
    clear hy hyA b5
    simp only [Loc.val]
    by_cases hos : o + 1 = site
    · go_wp2_with fail
      go_ret
      exact ⟨rfl, B.out⟩
    have hob : ((o + 1) == site) = false := by rw [beq_eq_false_iff_ne]; exact hos
    cases two with
    | false =>
      go_wp2_with fail
      go_ret
      exact ⟨rfl, B.out⟩
    | true =>
      obtain ⟨M, q1, q2, q3, q4, q5, q6⟩ := writeApart_law HP.out HP2.out (fun h => hos h.symm)
      have Q1 := Lib.hid q1
      have Q2 := Lib.hid q2
      have Q3 := Lib.hid q3
      have Q4 := Lib.hid q4
      have Q5 := Lib.hid q5
      have Q6 := Lib.hid q6
      have HMT := Lib.hid (mergeTZ_ok q1).2.2.1
      have HWY := Lib.hid (writeZ_ok HP2.out)
      have HYT := Lib.hid (show TreeOK Y by rw [HWY.out.2.2]; exact write_tree HT.out HWY.out.2.1)
      clear q1 q2 q3 q4 q5 q6
      go_wp2_with fail
      refine (iTreeMerge_any ⟨xa, xc, xs⟩ ⟨ya, yc, ys⟩ w5 AX.out AY.out).mono ?_
      rw [show (⟨xa, xc, xs⟩ : Loc LFile).xs.map LFile.er = X from HXE.out, show (⟨ya, yc, ys⟩ : Loc LFile).xs.map LFile.er = Y from HYE.out, Q1.out]
      rintro e w6 ⟨⟨na, nc, ns⟩, rfl, hm, hmA, -, b6⟩
      have HNE := Lib.hid (show ns.map LFile.er = M from hm)
      have AN := Lib.hid hmA
      first
        | replace B := Lib.hid (Loc.At.belowAll B.out (b6))
        | replace B := Lib.hid (nextB B.out (b6))
        | replace B := Lib.hid (Boxed.keep B.out (b6))
        | replace B := Lib.hid (Dat.belowAll B.out (b6))
        | replace B := Lib.hid (Fr.belowAll B.out (b6))
        | replace B := Lib.hid (Own.belowAll B.out (b6))
        | replace B := Lib.hid (Grows.next B.out (b6))
      first
        | replace AX := Lib.hid (Loc.At.belowAll AX.out (b6))
        | replace AX := Lib.hid (nextB AX.out (b6))
        | replace AX := Lib.hid (Boxed.keep AX.out (b6))
        | replace AX := Lib.hid (Dat.belowAll AX.out (b6))
        | replace AX := Lib.hid (Fr.belowAll AX.out (b6))
        | replace AX := Lib.hid (Own.belowAll AX.out (b6))
        | replace AX := Lib.hid (Grows.next AX.out (b6))
      first
        | replace AY := Lib.hid (Loc.At.belowAll AY.out (b6))
        | replace AY := Lib.hid (nextB AY.out (b6))
        | replace AY := Lib.hid (Boxed.keep AY.out (b6))
        | replace AY := Lib.hid (Dat.belowAll AY.out (b6))
        | replace AY := Lib.hid (Fr.belowAll AY.out (b6))
        | replace AY := Lib.hid (Own.belowAll AY.out (b6))
        | replace AY := Lib.hid (Grows.next AY.out (b6))
      clear hm hmA b6
      simp only [Loc.val]
      go_wp2_with fail
      refine (treeAt_ok ⟨na, nc, ns⟩ n w6 AN.out HNE.out HMT.out).mono ?_
      rintro e w7 ⟨⟨la, lc, ls⟩, rfl, hl, hlA, -, b7⟩
      have HLE := Lib.hid (show ls.map LSib.er = atL n M from hl)
      have AL := Lib.hid hlA
      have hl2 : ls.length = 2 := by have h := congrArg List.length HLE.out; rw [List.length_map, Q2.out] at h; exact h
      have hl2i : ((ls.length : Nat) : Int) = 2 := by omega
      first
        | replace B := Lib.hid (Loc.At.belowAll B.out (b7))
        | replace B := Lib.hid (nextB B.out (b7))
        | replace B := Lib.hid (Boxed.keep B.out (b7))
        | replace B := Lib.hid (Dat.belowAll B.out (b7))
        | replace B := Lib.hid (Fr.belowAll B.out (b7))
        | replace B := Lib.hid (Own.belowAll B.out (b7))
        | replace B := Lib.hid (Grows.next B.out (b7))
      first
        | replace AX := Lib.hid (Loc.At.belowAll AX.out (b7))
        | replace AX := Lib.hid (nextB AX.out (b7))
        | replace AX := Lib.hid (Boxed.keep AX.out (b7))
        | replace AX := Lib.hid (Dat.belowAll AX.out (b7))
        | replace AX := Lib.hid (Fr.belowAll AX.out (b7))
        | replace AX := Lib.hid (Own.belowAll AX.out (b7))
        | replace AX := Lib.hid (Grows.next AX.out (b7))
      first
        | replace AY := Lib.hid (Loc.At.belowAll AY.out (b7))
        | replace AY := Lib.hid (nextB AY.out (b7))
        | replace AY := Lib.hid (Boxed.keep AY.out (b7))
        | replace AY := Lib.hid (Dat.belowAll AY.out (b7))
        | replace AY := Lib.hid (Fr.belowAll AY.out (b7))
        | replace AY := Lib.hid (Own.belowAll AY.out (b7))
        | replace AY := Lib.hid (Grows.next AY.out (b7))
      clear hl hlA b7
      simp only [Loc.val]
      have HL2 := Lib.hid hl2
      clear hl2
      go_wp2_with fail
      refine (treeAt_ok ⟨xa, xc, xs⟩ n w7 AX.out HXE.out HXT.out).mono ?_
      rintro e w8 ⟨⟨pa, pc, ps⟩, rfl, hp, hpA, -, b8⟩
      have HPE := Lib.hid (show ps.map LSib.er = atL n X from hp)
      have AP := Lib.hid hpA
      first
        | replace B := Lib.hid (Loc.At.belowAll B.out (b8))
        | replace B := Lib.hid (nextB B.out (b8))
        | replace B := Lib.hid (Boxed.keep B.out (b8))
        | replace B := Lib.hid (Dat.belowAll B.out (b8))
        | replace B := Lib.hid (Fr.belowAll B.out (b8))
        | replace B := Lib.hid (Own.belowAll B.out (b8))
        | replace B := Lib.hid (Grows.next B.out (b8))
      first
        | replace AL := Lib.hid (Loc.At.belowAll AL.out (b8))
        | replace AL := Lib.hid (nextB AL.out (b8))
        | replace AL := Lib.hid (Boxed.keep AL.out (b8))
        | replace AL := Lib.hid (Dat.belowAll AL.out (b8))
        | replace AL := Lib.hid (Fr.belowAll AL.out (b8))
        | replace AL := Lib.hid (Own.belowAll AL.out (b8))
        | replace AL := Lib.hid (Grows.next AL.out (b8))
      first
        | replace AY := Lib.hid (Loc.At.belowAll AY.out (b8))
        | replace AY := Lib.hid (nextB AY.out (b8))
        | replace AY := Lib.hid (Boxed.keep AY.out (b8))
        | replace AY := Lib.hid (Dat.belowAll AY.out (b8))
        | replace AY := Lib.hid (Fr.belowAll AY.out (b8))
        | replace AY := Lib.hid (Own.belowAll AY.out (b8))
        | replace AY := Lib.hid (Grows.next AY.out (b8))
      clear hp hpA b8
      simp only [Loc.val]
      obtain ⟨p0, rfl⟩ : ∃ p0, ps = [p0] := by
        have h := congrArg List.length HPE.out
        rw [Q3.out, List.length_map] at h
        exact List.length_eq_one_iff.1 h
      have HP0 := Lib.hid (show p0.er ∈ ls.map LSib.er by
        have h := HPE.out
        rw [Q3.out] at h
        simp only [List.map_cons, List.map_nil, List.cons.injEq, and_true] at h
        rw [h, HLE.out]; exact Q5.out)
      obtain ⟨a, ao, ha⟩ := AP.out.place (k := 0) (by simp)
      simp only at ha
      subst ha
      obtain ⟨c0, c1, c2⟩ := AP.out.sib rfl (i := 0) (by simp)
      simp only [List.getElem_cons_zero, Nat.zero_mul, Nat.add_zero] at c0 c1 c2
      have HLV := Lib.hid (lvHas_yes ⟨la, lc, ls⟩ p0 w8 AL.out (AP.out.elem List.mem_cons_self) HP0.out)
      go_wp2_with fail
      refine HLV.out.mono ?_
      rintro e w9 ⟨rfl, b9⟩
      first
        | replace B := Lib.hid (Loc.At.belowAll B.out (b9))
        | replace B := Lib.hid (nextB B.out (b9))
        | replace B := Lib.hid (Boxed.keep B.out (b9))
        | replace B := Lib.hid (Dat.belowAll B.out (b9))
        | replace B := Lib.hid (Fr.belowAll B.out (b9))
        | replace B := Lib.hid (Own.belowAll B.out (b9))
        | replace B := Lib.hid (Grows.next B.out (b9))
      first
        | replace AL := Lib.hid (Loc.At.belowAll AL.out (b9))
        | replace AL := Lib.hid (nextB AL.out (b9))
        | replace AL := Lib.hid (Boxed.keep AL.out (b9))
        | replace AL := Lib.hid (Dat.belowAll AL.out (b9))
        | replace AL := Lib.hid (Fr.belowAll AL.out (b9))
        | replace AL := Lib.hid (Own.belowAll AL.out (b9))
        | replace AL := Lib.hid (Grows.next AL.out (b9))
      first
        | replace AY := Lib.hid (Loc.At.belowAll AY.out (b9))
        | replace AY := Lib.hid (nextB AY.out (b9))
        | replace AY := Lib.hid (Boxed.keep AY.out (b9))
        | replace AY := Lib.hid (Dat.belowAll AY.out (b9))
        | replace AY := Lib.hid (Fr.belowAll AY.out (b9))
        | replace AY := Lib.hid (Own.belowAll AY.out (b9))
        | replace AY := Lib.hid (Grows.next AY.out (b9))
      clear b9 c0 c1 c2 HLV HP0 HPE AP
      go_wp2_with fail
      refine (treeAt_ok ⟨ya, yc, ys⟩ n w9 AY.out HYE.out HYT.out).mono ?_
      rintro e w10 ⟨⟨pa, pc, ps⟩, rfl, hp, hpA, -, b8⟩
      have HPE := Lib.hid (show ps.map LSib.er = atL n Y from hp)
      have AP := Lib.hid hpA
      first
        | replace B := Lib.hid (Loc.At.belowAll B.out (b8))
        | replace B := Lib.hid (nextB B.out (b8))
        | replace B := Lib.hid (Boxed.keep B.out (b8))
        | replace B := Lib.hid (Dat.belowAll B.out (b8))
        | replace B := Lib.hid (Fr.belowAll B.out (b8))
        | replace B := Lib.hid (Own.belowAll B.out (b8))
        | replace B := Lib.hid (Grows.next B.out (b8))
      first
        | replace AL := Lib.hid (Loc.At.belowAll AL.out (b8))
        | replace AL := Lib.hid (nextB AL.out (b8))
        | replace AL := Lib.hid (Boxed.keep AL.out (b8))
        | replace AL := Lib.hid (Dat.belowAll AL.out (b8))
        | replace AL := Lib.hid (Fr.belowAll AL.out (b8))
        | replace AL := Lib.hid (Own.belowAll AL.out (b8))
        | replace AL := Lib.hid (Grows.next AL.out (b8))
      clear hp hpA b8
      simp only [Loc.val]
      obtain ⟨p0, rfl⟩ : ∃ p0, ps = [p0] := by
        have h := congrArg List.length HPE.out
        rw [Q4.out, List.length_map] at h
        exact List.length_eq_one_iff.1 h
      have HP0 := Lib.hid (show p0.er ∈ ls.map LSib.er by
        have h := HPE.out
        rw [Q4.out] at h
        simp only [List.map_cons, List.map_nil, List.cons.injEq, and_true] at h
        rw [h, HLE.out]; exact Q6.out)
      obtain ⟨a, ao, ha⟩ := AP.out.place (k := 0) (by simp)
      simp only at ha
      subst ha
      obtain ⟨c0, c1, c2⟩ := AP.out.sib rfl (i := 0) (by simp)
      simp only [List.getElem_cons_zero, Nat.zero_mul, Nat.add_zero] at c0 c1 c2
      have HLV := Lib.hid (lvHas_yes ⟨la, lc, ls⟩ p0 w10 AL.out (AP.out.elem List.mem_cons_self) HP0.out)
      go_wp2_with fail
      refine HLV.out.mono ?_
      rintro e w11 ⟨rfl, b9⟩
      first
        | replace B := Lib.hid (Loc.At.belowAll B.out (b9))
        | replace B := Lib.hid (nextB B.out (b9))
        | replace B := Lib.hid (Boxed.keep B.out (b9))
        | replace B := Lib.hid (Dat.belowAll B.out (b9))
        | replace B := Lib.hid (Fr.belowAll B.out (b9))
        | replace B := Lib.hid (Own.belowAll B.out (b9))
        | replace B := Lib.hid (Grows.next B.out (b9))
      clear b9 c0 c1 c2 HLV HP0 HPE AP
      go_wp2_with fail
      go_ret
      exact ⟨rfl, B.out⟩
end Go.Proofs.YtdidkfadiaafiaaGreatDoor
