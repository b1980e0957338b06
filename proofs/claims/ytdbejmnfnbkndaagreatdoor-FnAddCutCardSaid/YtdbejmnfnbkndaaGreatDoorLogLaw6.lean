/- The walk of FnAddCut. -/
import Derived.Test.YtdbejmnfnbkndaaGreatDoorLogKit
namespace Go.Proofs.YtdbejmnfnbkndaaGreatDoor
open Go Go.RowKit

set_option maxRecDepth 100000 in
set_option maxHeartbeats 4000000 in
theorem addCut_walk (x : Loc UInt8) (w : World) (hx : x.At w) :
    Calls Tryz.prog 3 #[x.val] w fun e w' => e = .returned (.bool true) ∧ Below w.heap.size w w' := by
  have h1 := hx.lenMax
  have HX0 := Lib.hid hx
  clear hx
  by_cases hbig : (1048576 : Int) < (x.xs.length : Int)
  · obtain ⟨xa, xc, xs⟩ := x
    simp only [Loc.val] at hbig ⊢
    go_enter Tryz.func3, Tryz.ntmps3
    go_wp2_with fail
    go_ret
    exact ⟨rfl, Below.refl _ _⟩
  have hc := Lib.hid (drawLogAdd_any x w HX0.out)
  obtain ⟨ua, uc, us⟩ := x
  simp only [Loc.val] at hbig hc ⊢
  go_enter Tryz.func3, Tryz.ntmps3
  go_wp2_with fail
  refine hc.out.mono ?_
  rintro e w1 ⟨⟨f, ⟨a, c, s⟩⟩, ⟨da, dc, ds⟩, rfl, hd7, hdR, hdA, ⟨hlo, hhi, hfew, hA, hb, hge⟩⟩
  simp only [LLog.val, Loc.val]
  simp only at hlo hhi hfew
  have hB2 : Below w1.heap.size w1 (w1.alloc (Obj.cells #[.int .i64 f, .slice a s.length c] 25)) := (Below.refl _ _).alloc (Nat.le_refl _) _
  have B := Lib.hid (nextB hb hB2)
  have BL := Lib.hid (Boxed.new w1 #[.int .i64 f, .slice a s.length c] 25)
  have AL : Hid (LLog.At _ ⟨f, ⟨a, c, s⟩⟩) := Lib.hid (LLog.belowAll hA hB2)
  have AD : Hid (Loc.At _ (⟨da, dc, ds⟩ : Loc LRec)) := Lib.hid (Loc.At.belowAll hdA hB2)
  generalize hL : LLog.er ⟨f, ⟨a, c, s⟩⟩ = L
  have HL := Lib.hid hL
  clear hb hA hge hc hL
  go_wp2_with fail
  generalize w1.alloc (Obj.cells #[.int .i64 f, .slice a s.length c] 25) = w2 at *
  generalize w1.heap.size = p at *
  clear hB2
  obtain ⟨DD, hDD⟩ : ∃ DD, ds.map LRec.er = DD := ⟨_, rfl⟩
  have HDD := Lib.hid hDD
  have hDR : recsB DD = true ∧ DD.length ≤ 40 := by
    refine ⟨?_, by rw [← hDD, List.length_map]; omega⟩
    unfold recsB
    rw [← hDD, List.all_eq_true]
    intro r hr
    obtain ⟨q, hq, rfl⟩ := List.mem_map.1 hr
    exact hdR q hq
  have HDR := Lib.hid hDR
  clear hDD hDR hdR hdA
  generalize hP : addZ L DD = P
  obtain ⟨Z, b2⟩ := P
  have HP := Lib.hid hP
  have HSA : Hid (∀ W, LLog.At W ⟨f, ⟨a, c, s⟩⟩ → Loc.At W (⟨da, dc, ds⟩ : Loc LRec) → Calls Tryz.prog 5 #[.agg #[.int .i64 f, .slice a s.length c], .slice da ds.length dc] W (AddPost W.heap.size W (Z, b2))) := Lib.hid (fun W h1 h2 => by
    have h := sLogAdd_any ⟨f, ⟨a, c, s⟩⟩ (⟨da, dc, ds⟩ : Loc LRec) W h1 h2
    rw [HL.out, HDD.out, HP.out] at h
    exact h)
  have HIA : Hid (∀ W, LLog.At W ⟨f, ⟨a, c, s⟩⟩ → Loc.At W (⟨da, dc, ds⟩ : Loc LRec) → Calls Tryz.prog 6 #[.agg #[.int .i64 f, .slice a s.length c], .slice da ds.length dc] W (AddPost W.heap.size W (Z, b2))) := Lib.hid (fun W h1 h2 => by
    have h := iLogAdd_any ⟨f, ⟨a, c, s⟩⟩ (⟨da, dc, ds⟩ : Loc LRec) W h1 h2
    rw [HL.out, HDD.out, HP.out] at h
    exact h)
  clear hP
  refine (HSA.out w2 AL.out AD.out).mono ?_
  rintro e w3 ⟨⟨vf, ⟨va, vc, vs⟩⟩, rfl, hv, hvA, -, b3⟩
  simp only [LLog.val, Loc.val]
  have hB4 : Below w3.heap.size w3 (w3.alloc (Obj.cells #[.int .i64 vf, .slice va vs.length vc] 25)) := (Below.refl _ _).alloc (Nat.le_refl _) _
  replace B := Lib.hid (nextB B.out (nextB b3 hB4))
  replace AL := Lib.hid (LLog.belowAll AL.out (nextB b3 hB4))
  replace BL := Lib.hid (BL.out.keep (nextB b3 hB4))
  replace AD := Lib.hid (Loc.At.belowAll AD.out (nextB b3 hB4))
  have BV := Lib.hid (Boxed.new w3 #[.int .i64 vf, .slice va vs.length vc] 25)
  have AV : Hid (LLog.At _ ⟨vf, ⟨va, vc, vs⟩⟩) := Lib.hid (LLog.belowAll hvA hB4)
  have EV : Hid (LLog.er ⟨vf, ⟨va, vc, vs⟩⟩ = Z) := Lib.hid hv
  clear b3 hB4 hv hvA
  have hl0 := BL.out.2 0 _ rfl
  have hl1 := BL.out.2 1 _ rfl
  go_wp2_with fail
  generalize w3.alloc (Obj.cells #[.int .i64 vf, .slice va vs.length vc] 25) = w4 at *
  generalize w3.heap.size = r at *
  clear hl0 hl1
  refine (HIA.out w4 AL.out AD.out).mono ?_
  rintro e w5 ⟨⟨xf, ⟨xa, xc, xs⟩⟩, rfl, hx, hxA, -, b5⟩
  simp only [LLog.val, Loc.val]
  have hB6 : Below w5.heap.size w5 (w5.alloc (Obj.cells #[.int .i64 xf, .slice xa xs.length xc] 25)) := (Below.refl _ _).alloc (Nat.le_refl _) _
  replace B := Lib.hid (nextB B.out (nextB b5 hB6))
  replace AL := Lib.hid (LLog.belowAll AL.out (nextB b5 hB6))
  replace BL := Lib.hid (BL.out.keep (nextB b5 hB6))
  replace AD := Lib.hid (Loc.At.belowAll AD.out (nextB b5 hB6))
  replace AV := Lib.hid (LLog.belowAll AV.out (nextB b5 hB6))
  replace BV := Lib.hid (BV.out.keep (nextB b5 hB6))
  have BX := Lib.hid (Boxed.new w5 #[.int .i64 xf, .slice xa xs.length xc] 25)
  have AX : Hid (LLog.At _ ⟨xf, ⟨xa, xc, xs⟩⟩) := Lib.hid (LLog.belowAll hxA hB6)
  have EX : Hid (LLog.er ⟨xf, ⟨xa, xc, xs⟩⟩ = Z) := Lib.hid hx
  clear b5 hB6 hx hxA
  have hbb : (b2 != b2) = false := by simp
  have hv0 := BV.out.2 0 _ rfl
  have hv1 := BV.out.2 1 _ rfl
  have hx0 := BX.out.2 0 _ rfl
  have hx1 := BX.out.2 1 _ rfl
  go_wp2_with fail
  generalize w5.alloc (Obj.cells #[.int .i64 xf, .slice xa xs.length xc] 25) = w6 at *
  generalize w5.heap.size = q at *
  clear hv0 hv1 hx0 hx1
  refine (lvLog_yes ⟨xf, ⟨xa, xc, xs⟩⟩ ⟨vf, ⟨va, vc, vs⟩⟩ w6 AX.out AV.out (EX.out.trans EV.out.symm)).mono ?_
  rintro e w7 ⟨rfl, b7⟩
  replace B := Lib.hid (nextB B.out (b7))
  replace AL := Lib.hid (LLog.belowAll AL.out (b7))
  replace BL := Lib.hid (BL.out.keep (b7))
  replace AD := Lib.hid (Loc.At.belowAll AD.out (b7))
  replace AV := Lib.hid (LLog.belowAll AV.out (b7))
  replace BV := Lib.hid (BV.out.keep (b7))
  replace AX := Lib.hid (LLog.belowAll AX.out (b7))
  replace BX := Lib.hid (BX.out.keep (b7))
  clear b7
  cases b2 with
  | false =>
    have hbt : (false == false) = true := rfl
    have hv0 := BV.out.2 0 _ rfl
    have hv1 := BV.out.2 1 _ rfl
    have hx0 := BX.out.2 0 _ rfl
    have hx1 := BX.out.2 1 _ rfl
    go_wp2_with fail
    clear hv0 hv1 hx0 hx1
    refine (lvLog_yes ⟨xf, ⟨xa, xc, xs⟩⟩ ⟨vf, ⟨va, vc, vs⟩⟩ w7 AX.out AV.out (EX.out.trans EV.out.symm)).mono ?_
    rintro e w9 ⟨rfl, b9⟩
    replace B := Lib.hid (nextB B.out (b9))
    replace AL := Lib.hid (LLog.belowAll AL.out (b9))
    replace BL := Lib.hid (BL.out.keep (b9))
    replace AD := Lib.hid (Loc.At.belowAll AD.out (b9))
    replace AV := Lib.hid (LLog.belowAll AV.out (b9))
    replace BV := Lib.hid (BV.out.keep (b9))
    replace AX := Lib.hid (LLog.belowAll AX.out (b9))
    replace BX := Lib.hid (BX.out.keep (b9))
    clear b9
    go_wp2_with fail
    go_ret
    exact ⟨rfl, B.out⟩
  | true =>
    have hrm := HP.out
    obtain ⟨k1, k2⟩ := addCut_law (show (addZ L DD).2 = true by rw [hrm]) (by rw [← HL.out]; simp only [LLog.er]; omega)
    rw [hrm] at k1 k2
    have her := endZ_rng (l := L)
    have HRNG := Lib.hid (show -9223372036854775808 ≤ endZ L ∧ endZ L ≤ 9223372036854775807 by omega)
    have HIE : Hid (∀ W, LLog.At W ⟨f, ⟨a, c, s⟩⟩ → Calls Tryz.prog 8 #[.agg #[.int .i64 f, .slice a s.length c]] W fun e w' => e = .returned (.int .i64 (endZ L)) ∧ Below W.heap.size W w') := Lib.hid (fun W hW => by
      have h := iLogEnd_any ⟨f, ⟨a, c, s⟩⟩ W hW
      rw [HL.out] at h
      exact h)
    have HCX : Hid (∀ W, LLog.At W ⟨xf, ⟨xa, xc, xs⟩⟩ → Calls Tryz.prog 9 #[.agg #[.int .i64 xf, .slice xa xs.length xc], .int .i64 (endZ L)] W (LogNew W (fun l => l = L))) := Lib.hid (fun W hW => by
      have h := iLogCut_any ⟨xf, ⟨xa, xc, xs⟩⟩ (endZ L) W hW HRNG.out
      rw [EX.out, k1] at h
      exact h)
    have HRX : Hid (∀ W, LLog.At W ⟨xf, ⟨xa, xc, xs⟩⟩ → Calls Tryz.prog 11 #[.agg #[.int .i64 xf, .slice xa xs.length xc], .int .i64 (endZ L)] W (NewPost W (fun ys : List LRec => ys.map LRec.er = DD))) := Lib.hid (fun W hW => by
      have h := iLogRest_any ⟨xf, ⟨xa, xc, xs⟩⟩ (endZ L) W hW HRNG.out
      rw [EX.out, k2] at h
      exact h)
    clear hrm k1 k2 her
    generalize endZ L = el at *
    have hl0 := BL.out.2 0 _ rfl
    have hl1 := BL.out.2 1 _ rfl
    go_wp2_with fail
    clear hl0 hl1
    refine (HIE.out w7 AL.out).mono ?_
    rintro e w8 ⟨rfl, b8⟩
    replace B := Lib.hid (nextB B.out (b8))
    replace AL := Lib.hid (LLog.belowAll AL.out (b8))
    replace BL := Lib.hid (BL.out.keep (b8))
    replace AD := Lib.hid (Loc.At.belowAll AD.out (b8))
    replace AV := Lib.hid (LLog.belowAll AV.out (b8))
    replace BV := Lib.hid (BV.out.keep (b8))
    replace AX := Lib.hid (LLog.belowAll AX.out (b8))
    replace BX := Lib.hid (BX.out.keep (b8))
    clear b8
    go_wp2_with fail
    have HF : Hid (∀ w', Below w8.heap.size w8 w' → w'.cell? ⟨p, 0, none⟩ = some (.int .i64 f) ∧ w'.cell? ⟨p, 1, none⟩ = some (.slice a s.length c) ∧ w'.cell? ⟨q, 0, none⟩ = some (.int .i64 xf) ∧ w'.cell? ⟨q, 1, none⟩ = some (.slice xa xs.length xc)) :=
      Lib.hid (fun w' h => ⟨(BL.out.keep h).2 0 _ rfl, (BL.out.keep h).2 1 _ rfl, (BX.out.keep h).2 0 _ rfl, (BX.out.keep h).2 1 _ rfl⟩)
    refine wp_region_rel 13 (by kernel_rfl) (by kernel_rfl) (by rfl) ?_
    simp only [List.take_succ_cons, List.take_zero, List.drop_succ_cons, List.drop_zero]
    first
      | (refine wpRel_pass (by rfl) (fun U => by rfl) ?_; simp only [Act.put, List.setIfInBounds_toArray, List.set_cons_zero, List.set_cons_succ])
      | (refine' wpRel_fix (by rfl) (fun U => by rfl) (fun m U w' hI hG => ?_) ?_
         rotate_left
         focus (have hf := HF.out w' hI; unfold relAt; go_simp; first | exact ⟨rfl, Below.refl _ _⟩ | exact Below.refl _ _ | exact ⟨trivial, Below.refl _ _⟩)
         simp only [Act.put, List.setIfInBounds_toArray, List.set_cons_zero, List.set_cons_succ])
    first
      | (refine wpRel_pass (by rfl) (fun U => by rfl) ?_; simp only [Act.put, List.setIfInBounds_toArray, List.set_cons_zero, List.set_cons_succ])
      | (refine' wpRel_fix (by rfl) (fun U => by rfl) (fun m U w' hI hG => ?_) ?_
         rotate_left
         focus (have hf := HF.out w' hI; unfold relAt; go_simp; first | exact ⟨rfl, Below.refl _ _⟩ | exact Below.refl _ _ | exact ⟨trivial, Below.refl _ _⟩)
         simp only [Act.put, List.setIfInBounds_toArray, List.set_cons_zero, List.set_cons_succ])
    refine wpRel_rel (LogR (L)) rfl (LogR.stable _) (by rfl) (fun U => by rfl) (fun m U w' hI hG => ?_) ?_
    · have hf := HF.out w' hI
      unfold relAt
      go_simp
      clear hf
      exact Calls.mono (HCX.out w' (LLog.belowAll AX.out hI)) fun e w'' ⟨y, he, hy, hA, _, hb⟩ => ⟨⟨_, he, y, rfl, hy, hA⟩, hb⟩
    simp only [Act.put, List.setIfInBounds_toArray, List.set_cons_zero, List.set_cons_succ]
    first
      | (refine wpRel_pass (by rfl) (fun U => by rfl) ?_; simp only [Act.put, List.setIfInBounds_toArray, List.set_cons_zero, List.set_cons_succ])
      | (refine' wpRel_fix (by rfl) (fun U => by rfl) (fun m U w' hI hG => ?_) ?_
         rotate_left
         focus (have hf := HF.out w' hI; unfold relAt; go_simp; first | exact ⟨rfl, Below.refl _ _⟩ | exact Below.refl _ _ | exact ⟨trivial, Below.refl _ _⟩)
         simp only [Act.put, List.setIfInBounds_toArray, List.set_cons_zero, List.set_cons_succ])
    refine' wpRel_fix (by rfl) (fun U => by rfl) (fun m U w' hI hG => ?_) ?_
    rotate_left
    · obtain ⟨y, hv, hy, hA⟩ := hG _ (List.Mem.head _) (by rfl)
      simp only at hv
      have hf := HF.out w' hI
      unfold relAt
      simp only [hv]
      go_simp
      clear hf
      exact Calls.mono (lvLog_yes y ⟨f, ⟨a, c, s⟩⟩ w' hA (LLog.belowAll AL.out hI) (hy.trans HL.out.symm)) fun e w'' h => ⟨h.1, h.2⟩
    simp only [Act.put, List.setIfInBounds_toArray, List.set_cons_zero, List.set_cons_succ]
    first
      | (refine wpRel_pass (by rfl) (fun U => by rfl) ?_; simp only [Act.put, List.setIfInBounds_toArray, List.set_cons_zero, List.set_cons_succ])
      | (refine' wpRel_fix (by rfl) (fun U => by rfl) (fun m U w' hI hG => ?_) ?_
         rotate_left
         focus (have hf := HF.out w' hI; unfold relAt; go_simp; first | exact ⟨rfl, Below.refl _ _⟩ | exact Below.refl _ _ | exact ⟨trivial, Below.refl _ _⟩)
         simp only [Act.put, List.setIfInBounds_toArray, List.set_cons_zero, List.set_cons_succ])
    first
      | (refine wpRel_pass (by rfl) (fun U => by rfl) ?_; simp only [Act.put, List.setIfInBounds_toArray, List.set_cons_zero, List.set_cons_succ])
      | (refine' wpRel_fix (by rfl) (fun U => by rfl) (fun m U w' hI hG => ?_) ?_
         rotate_left
         focus (have hf := HF.out w' hI; unfold relAt; go_simp; first | exact ⟨rfl, Below.refl _ _⟩ | exact Below.refl _ _ | exact ⟨trivial, Below.refl _ _⟩)
         simp only [Act.put, List.setIfInBounds_toArray, List.set_cons_zero, List.set_cons_succ])
    first
      | (refine wpRel_pass (by rfl) (fun U => by rfl) ?_; simp only [Act.put, List.setIfInBounds_toArray, List.set_cons_zero, List.set_cons_succ])
      | (refine' wpRel_fix (by rfl) (fun U => by rfl) (fun m U w' hI hG => ?_) ?_
         rotate_left
         focus (have hf := HF.out w' hI; unfold relAt; go_simp; first | exact ⟨rfl, Below.refl _ _⟩ | exact Below.refl _ _ | exact ⟨trivial, Below.refl _ _⟩)
         simp only [Act.put, List.setIfInBounds_toArray, List.set_cons_zero, List.set_cons_succ])
    refine wpRel_rel (RecsR (DD)) rfl (RecsR.stable _) (by rfl) (fun U => by rfl) (fun m U w' hI hG => ?_) ?_
    · have hf := HF.out w' hI
      unfold relAt
      go_simp
      clear hf
      exact Calls.mono (HRX.out w' (LLog.belowAll AX.out hI)) fun e w'' ⟨y, he, hy, hA, _, hb⟩ => ⟨⟨_, he, y, rfl, hy, hA⟩, hb⟩
    simp only [Act.put, List.setIfInBounds_toArray, List.set_cons_zero, List.set_cons_succ]
    first
      | (refine wpRel_pass (by rfl) (fun U => by rfl) ?_; simp only [Act.put, List.setIfInBounds_toArray, List.set_cons_zero, List.set_cons_succ])
      | (refine' wpRel_fix (by rfl) (fun U => by rfl) (fun m U w' hI hG => ?_) ?_
         rotate_left
         focus (have hf := HF.out w' hI; unfold relAt; go_simp; first | exact ⟨rfl, Below.refl _ _⟩ | exact Below.refl _ _ | exact ⟨trivial, Below.refl _ _⟩)
         simp only [Act.put, List.setIfInBounds_toArray, List.set_cons_zero, List.set_cons_succ])
    refine' wpRel_fix (by rfl) (fun U => by rfl) (fun m U w' hI hG => ?_) ?_
    rotate_left
    · obtain ⟨y, hv, hy, hA⟩ := hG _ (List.Mem.head _) (by rfl)
      simp only at hv
      have hf := HF.out w' hI
      unfold relAt
      simp only [hv]
      go_simp
      clear hf
      exact Calls.mono (lvRecs_yes y ⟨da, dc, ds⟩ w' hA (Loc.At.belowAll AD.out hI) (hy.trans HDD.out.symm)) fun e w'' h => ⟨h.1, h.2⟩
    simp only [Act.put, List.setIfInBounds_toArray, List.set_cons_zero, List.set_cons_succ]
    first
      | (refine wpRel_pass (by rfl) (fun U => by rfl) ?_; simp only [Act.put, List.setIfInBounds_toArray, List.set_cons_zero, List.set_cons_succ])
      | (refine' wpRel_fix (by rfl) (fun U => by rfl) (fun m U w' hI hG => ?_) ?_
         rotate_left
         focus (have hf := HF.out w' hI; unfold relAt; go_simp; first | exact ⟨rfl, Below.refl _ _⟩ | exact Below.refl _ _ | exact ⟨trivial, Below.refl _ _⟩)
         simp only [Act.put, List.setIfInBounds_toArray, List.set_cons_zero, List.set_cons_succ])
    first
      | (refine wpRel_pass (by rfl) (fun U => by rfl) ?_; simp only [Act.put, List.setIfInBounds_toArray, List.set_cons_zero, List.set_cons_succ])
      | (refine' wpRel_fix (by rfl) (fun U => by rfl) (fun m U w' hI hG => ?_) ?_
         rotate_left
         focus (have hf := HF.out w' hI; unfold relAt; go_simp; first | exact ⟨rfl, Below.refl _ _⟩ | exact Below.refl _ _ | exact ⟨trivial, Below.refl _ _⟩)
         simp only [Act.put, List.setIfInBounds_toArray, List.set_cons_zero, List.set_cons_succ])
    intro U w9 hI hG
    replace hI : Below w8.heap.size w8 w9 := hI
    replace B := Lib.hid (nextB B.out (hI))
    replace AL := Lib.hid (LLog.belowAll AL.out (hI))
    replace BL := Lib.hid (BL.out.keep (hI))
    replace AD := Lib.hid (Loc.At.belowAll AD.out (hI))
    replace AV := Lib.hid (LLog.belowAll AV.out (hI))
    replace BV := Lib.hid (BV.out.keep (hI))
    replace AX := Lib.hid (LLog.belowAll AX.out (hI))
    replace BX := Lib.hid (BX.out.keep (hI))
    go_wp2_with fail
    go_ret
    exact ⟨rfl, B.out⟩
end Go.Proofs.YtdbejmnfnbkndaaGreatDoor
