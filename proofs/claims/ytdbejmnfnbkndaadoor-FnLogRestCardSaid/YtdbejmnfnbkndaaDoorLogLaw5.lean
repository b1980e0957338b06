/- The walk of FnLogRest. -/
import Derived.Test.YtdbejmnfnbkndaaDoorLogKit
import Derived.Test.YtdbejmnfnbkndaaDoorRelM
namespace Go.Proofs.YtdbejmnfnbkndaaDoor
open Go Go.RowKit

set_option maxRecDepth 100000 in
set_option maxHeartbeats 8000000 in
theorem logRest_walk (x : Loc UInt8) (w : World) (hx : x.At w) :
    Calls Tryd.prog 5 #[x.val] w fun e w' => e = .returned (.bool true) ∧ Below w.heap.size w w' := by
  have h1 := hx.lenMax
  have HX0 := Lib.hid hx
  clear hx
  by_cases hbig : (1048576 : Int) < (x.xs.length : Int)
  · obtain ⟨xa, xc, xs⟩ := x
    simp only [Loc.val] at hbig ⊢
    go_enter Tryd.func5, Tryd.ntmps5
    go_wp2_with fail
    go_ret
    exact ⟨rfl, Below.refl _ _⟩
  have hc := Lib.hid (drawLogRest_any x w HX0.out)
  obtain ⟨ua, uc, us⟩ := x
  simp only [Loc.val] at hbig hc ⊢
  go_enter Tryd.func5, Tryd.ntmps5
  go_wp2_with fail
  refine hc.out.mono ?_
  rintro e w1 ⟨⟨f, ⟨a, c, s⟩⟩, n, rfl, hn1, hn2, ⟨hlo, hhi, hfew, hA, hb, hge⟩⟩
  simp only [LLog.val, Loc.val]
  simp only at hlo hhi hfew
  have hB2 : Below w1.heap.size w1 (w1.alloc (Obj.cells #[.int .i64 f, .slice a s.length c] 25)) := (Below.refl _ _).alloc (Nat.le_refl _) _
  have B := Lib.hid (nextB hb hB2)
  have BL := Lib.hid (Boxed.new w1 #[.int .i64 f, .slice a s.length c] 25)
  have AL : Hid (LLog.At _ ⟨f, ⟨a, c, s⟩⟩) := Lib.hid (LLog.belowAll hA hB2)

  generalize hL : LLog.er ⟨f, ⟨a, c, s⟩⟩ = L
  have HL := Lib.hid hL
  clear hb hA hge hc hL
  go_wp2_with fail
  generalize w1.alloc (Obj.cells #[.int .i64 f, .slice a s.length c] 25) = w2 at *
  generalize w1.heap.size = p at *
  clear hB2
  generalize hb : logB L = b
  have HLB := Lib.hid hb
  have HOK : Hid (∀ W, LLog.At W ⟨f, ⟨a, c, s⟩⟩ → Calls Tryd.prog 12 #[.agg #[.int .i64 f, .slice a s.length c]] W fun e w' => e = .returned (.bool b) ∧ Below W.heap.size W w') := Lib.hid (fun W hW => by
    have h := sLogOk_any ⟨f, ⟨a, c, s⟩⟩ W hW
    rw [HL.out, HLB.out] at h
    exact h)
  clear hb
  have HSP : Hid (∀ W, LLog.At W ⟨f, ⟨a, c, s⟩⟩ → Calls Tryd.prog 22 #[.agg #[.int .i64 f, .slice a s.length c], .int .i64 n] W (NewPost W (fun ys : List LRec => ys.map LRec.er = restZ n L))) := Lib.hid (fun W hW => by
    have h := sLogRest_any ⟨f, ⟨a, c, s⟩⟩ n W hW ⟨by omega, by omega⟩
    rw [HL.out] at h
    exact h)
  refine (iLogRest_any ⟨f, ⟨a, c, s⟩⟩ n w2 AL.out ⟨by omega, by omega⟩).mono ?_
  rintro e w3 ⟨⟨ra, rc, rs⟩, rfl, hr, hrA, -, b3⟩
  replace B := Lib.hid (nextB B.out (b3))
  replace AL := Lib.hid (LLog.belowAll AL.out (b3))
  replace BL := Lib.hid (BL.out.keep (b3))
  have AR := Lib.hid hrA
  have HRE := Lib.hid (show rs.map LRec.er = restZ n L by rw [← HL.out]; exact hr)
  clear b3 hr hrA
  simp only [Loc.val]
  cases b with
  | false =>
    by_cases hn0 : n < 0
    case pos =>
      have hl0 := BL.out.2 0 _ rfl
      have hl1 := BL.out.2 1 _ rfl
      go_wp2_with fail
      clear hl0 hl1
      refine (HSP.out w3 AL.out).mono ?_
      rintro e w4 ⟨⟨ya, yc, ys⟩, rfl, hy, hyA, -, by_⟩
      replace B := Lib.hid (nextB B.out (by_))
      replace AL := Lib.hid (LLog.belowAll AL.out (by_))
      replace BL := Lib.hid (BL.out.keep (by_))
      replace AR := Lib.hid (Loc.At.belowAll AR.out (by_))
      have HYE := Lib.hid hy
      have AY := Lib.hid hyA
      clear by_ hy hyA
      simp only [Loc.val]
      go_wp2_with fail
      refine (lvRecs_yes ⟨ra, rc, rs⟩ ⟨ya, yc, ys⟩ w4 AR.out AY.out (HRE.out.trans HYE.out.symm)).mono ?_
      rintro e w8 ⟨rfl, by_⟩
      replace B := Lib.hid (nextB B.out (by_))
      replace AL := Lib.hid (LLog.belowAll AL.out (by_))
      replace BL := Lib.hid (BL.out.keep (by_))
      replace AR := Lib.hid (Loc.At.belowAll AR.out (by_))
      clear by_ HYE AY
      have hl0 := BL.out.2 0 _ rfl
      have hl1 := BL.out.2 1 _ rfl
      go_wp2_with fail
      clear hl0 hl1
      refine (HOK.out w8 AL.out).mono ?_
      rintro e w5 ⟨rfl, by_⟩
      replace B := Lib.hid (nextB B.out (by_))
      replace AL := Lib.hid (LLog.belowAll AL.out (by_))
      replace BL := Lib.hid (BL.out.keep (by_))
      replace AR := Lib.hid (Loc.At.belowAll AR.out (by_))
      clear by_
      have hl0 := BL.out.2 0 _ rfl
      have hl1 := BL.out.2 1 _ rfl
      go_wp2_with fail
      clear hl0 hl1
      refine (HSP.out w5 AL.out).mono ?_
      rintro e w6 ⟨⟨ya, yc, ys⟩, rfl, hy, hyA, -, by_⟩
      replace B := Lib.hid (nextB B.out (by_))
      replace AL := Lib.hid (LLog.belowAll AL.out (by_))
      replace BL := Lib.hid (BL.out.keep (by_))
      replace AR := Lib.hid (Loc.At.belowAll AR.out (by_))
      have HYE := Lib.hid hy
      have AY := Lib.hid hyA
      clear by_ hy hyA
      simp only [Loc.val]
      go_wp2_with fail
      refine (lvRecs_yes ⟨ra, rc, rs⟩ ⟨ya, yc, ys⟩ w6 AR.out AY.out (HRE.out.trans HYE.out.symm)).mono ?_
      rintro e w7 ⟨rfl, by_⟩
      replace B := Lib.hid (nextB B.out (by_))
      replace AL := Lib.hid (LLog.belowAll AL.out (by_))
      replace BL := Lib.hid (BL.out.keep (by_))
      replace AR := Lib.hid (Loc.At.belowAll AR.out (by_))
      clear by_ HYE AY
      go_wp2_with fail
      go_ret
      exact ⟨rfl, B.out⟩
    case neg =>
      have hl0 := BL.out.2 0 _ rfl
      have hl1 := BL.out.2 1 _ rfl
      go_wp2_with fail
      clear hl0 hl1
      refine (HSP.out w3 AL.out).mono ?_
      rintro e w4 ⟨⟨ya, yc, ys⟩, rfl, hy, hyA, -, by_⟩
      replace B := Lib.hid (nextB B.out (by_))
      replace AL := Lib.hid (LLog.belowAll AL.out (by_))
      replace BL := Lib.hid (BL.out.keep (by_))
      replace AR := Lib.hid (Loc.At.belowAll AR.out (by_))
      have HYE := Lib.hid hy
      have AY := Lib.hid hyA
      clear by_ hy hyA
      simp only [Loc.val]
      go_wp2_with fail
      refine (lvRecs_yes ⟨ra, rc, rs⟩ ⟨ya, yc, ys⟩ w4 AR.out AY.out (HRE.out.trans HYE.out.symm)).mono ?_
      rintro e w8 ⟨rfl, by_⟩
      replace B := Lib.hid (nextB B.out (by_))
      replace AL := Lib.hid (LLog.belowAll AL.out (by_))
      replace BL := Lib.hid (BL.out.keep (by_))
      replace AR := Lib.hid (Loc.At.belowAll AR.out (by_))
      clear by_ HYE AY
      have hl0 := BL.out.2 0 _ rfl
      have hl1 := BL.out.2 1 _ rfl
      go_wp2_with fail
      clear hl0 hl1
      refine (HOK.out w8 AL.out).mono ?_
      rintro e w5 ⟨rfl, by_⟩
      replace B := Lib.hid (nextB B.out (by_))
      replace AL := Lib.hid (LLog.belowAll AL.out (by_))
      replace BL := Lib.hid (BL.out.keep (by_))
      replace AR := Lib.hid (Loc.At.belowAll AR.out (by_))
      clear by_
      have hl0 := BL.out.2 0 _ rfl
      have hl1 := BL.out.2 1 _ rfl
      go_wp2_with fail
      clear hl0 hl1
      refine (HSP.out w5 AL.out).mono ?_
      rintro e w6 ⟨⟨ya, yc, ys⟩, rfl, hy, hyA, -, by_⟩
      replace B := Lib.hid (nextB B.out (by_))
      replace AL := Lib.hid (LLog.belowAll AL.out (by_))
      replace BL := Lib.hid (BL.out.keep (by_))
      replace AR := Lib.hid (Loc.At.belowAll AR.out (by_))
      have HYE := Lib.hid hy
      have AY := Lib.hid hyA
      clear by_ hy hyA
      simp only [Loc.val]
      go_wp2_with fail
      refine (lvRecs_yes ⟨ra, rc, rs⟩ ⟨ya, yc, ys⟩ w6 AR.out AY.out (HRE.out.trans HYE.out.symm)).mono ?_
      rintro e w7 ⟨rfl, by_⟩
      replace B := Lib.hid (nextB B.out (by_))
      replace AL := Lib.hid (LLog.belowAll AL.out (by_))
      replace BL := Lib.hid (BL.out.keep (by_))
      replace AR := Lib.hid (Loc.At.belowAll AR.out (by_))
      clear by_ HYE AY
      go_wp2_with fail
      go_ret
      exact ⟨rfl, B.out⟩
  | true =>
  by_cases hn0 : n < 0
  case pos =>
    have hl0 := BL.out.2 0 _ rfl
    have hl1 := BL.out.2 1 _ rfl
    go_wp2_with fail
    clear hl0 hl1
    refine (HSP.out w3 AL.out).mono ?_
    rintro e w4 ⟨⟨ya, yc, ys⟩, rfl, hy, hyA, -, by_⟩
    replace B := Lib.hid (nextB B.out (by_))
    replace AL := Lib.hid (LLog.belowAll AL.out (by_))
    replace BL := Lib.hid (BL.out.keep (by_))
    replace AR := Lib.hid (Loc.At.belowAll AR.out (by_))
    have HYE := Lib.hid hy
    have AY := Lib.hid hyA
    clear by_ hy hyA
    simp only [Loc.val]
    go_wp2_with fail
    refine (lvRecs_yes ⟨ra, rc, rs⟩ ⟨ya, yc, ys⟩ w4 AR.out AY.out (HRE.out.trans HYE.out.symm)).mono ?_
    rintro e w8 ⟨rfl, by_⟩
    replace B := Lib.hid (nextB B.out (by_))
    replace AL := Lib.hid (LLog.belowAll AL.out (by_))
    replace BL := Lib.hid (BL.out.keep (by_))
    replace AR := Lib.hid (Loc.At.belowAll AR.out (by_))
    clear by_ HYE AY
    have hl0 := BL.out.2 0 _ rfl
    have hl1 := BL.out.2 1 _ rfl
    go_wp2_with fail
    clear hl0 hl1
    refine (HOK.out w8 AL.out).mono ?_
    rintro e w5 ⟨rfl, by_⟩
    replace B := Lib.hid (nextB B.out (by_))
    replace AL := Lib.hid (LLog.belowAll AL.out (by_))
    replace BL := Lib.hid (BL.out.keep (by_))
    replace AR := Lib.hid (Loc.At.belowAll AR.out (by_))
    clear by_
    have hl0 := BL.out.2 0 _ rfl
    have hl1 := BL.out.2 1 _ rfl
    go_wp2_with fail
    clear hl0 hl1
    refine (HSP.out w5 AL.out).mono ?_
    rintro e w6 ⟨⟨ya, yc, ys⟩, rfl, hy, hyA, -, by_⟩
    replace B := Lib.hid (nextB B.out (by_))
    replace AL := Lib.hid (LLog.belowAll AL.out (by_))
    replace BL := Lib.hid (BL.out.keep (by_))
    replace AR := Lib.hid (Loc.At.belowAll AR.out (by_))
    have HYE := Lib.hid hy
    have AY := Lib.hid hyA
    clear by_ hy hyA
    simp only [Loc.val]
    go_wp2_with fail
    refine (lvRecs_yes ⟨ra, rc, rs⟩ ⟨ya, yc, ys⟩ w6 AR.out AY.out (HRE.out.trans HYE.out.symm)).mono ?_
    rintro e w7 ⟨rfl, by_⟩
    replace B := Lib.hid (nextB B.out (by_))
    replace AL := Lib.hid (LLog.belowAll AL.out (by_))
    replace BL := Lib.hid (BL.out.keep (by_))
    replace AR := Lib.hid (Loc.At.belowAll AR.out (by_))
    clear by_ HYE AY
    go_wp2_with fail
    go_ret
    exact ⟨rfl, B.out⟩
  have hl0 := BL.out.2 0 _ rfl
  have hl1 := BL.out.2 1 _ rfl
  go_wp2_with fail
  clear hl0 hl1
  refine (HSP.out w3 AL.out).mono ?_
  rintro e w4 ⟨⟨ya, yc, ys⟩, rfl, hy, hyA, -, by_⟩
  replace B := Lib.hid (nextB B.out (by_))
  replace AL := Lib.hid (LLog.belowAll AL.out (by_))
  replace BL := Lib.hid (BL.out.keep (by_))
  replace AR := Lib.hid (Loc.At.belowAll AR.out (by_))
  have HYE := Lib.hid hy
  have AY := Lib.hid hyA
  clear by_ hy hyA
  simp only [Loc.val]
  go_wp2_with fail
  refine (lvRecs_yes ⟨ra, rc, rs⟩ ⟨ya, yc, ys⟩ w4 AR.out AY.out (HRE.out.trans HYE.out.symm)).mono ?_
  rintro e w8 ⟨rfl, by_⟩
  replace B := Lib.hid (nextB B.out (by_))
  replace AL := Lib.hid (LLog.belowAll AL.out (by_))
  replace BL := Lib.hid (BL.out.keep (by_))
  replace AR := Lib.hid (Loc.At.belowAll AR.out (by_))
  clear by_ HYE AY
  have hl0 := BL.out.2 0 _ rfl
  have hl1 := BL.out.2 1 _ rfl
  go_wp2_with fail
  clear hl0 hl1
  refine (HOK.out w8 AL.out).mono ?_
  rintro e w5 ⟨rfl, by_⟩
  replace B := Lib.hid (nextB B.out (by_))
  replace AL := Lib.hid (LLog.belowAll AL.out (by_))
  replace BL := Lib.hid (BL.out.keep (by_))
  replace AR := Lib.hid (Loc.At.belowAll AR.out (by_))
  clear by_
  have hn : 0 ≤ n := by omega
  obtain ⟨k1, k2⟩ := rest_law HLB.out hn
  have HCX : Hid (∀ W, LLog.At W ⟨f, ⟨a, c, s⟩⟩ → Calls Tryd.prog 18 #[.agg #[.int .i64 f, .slice a s.length c], .int .i64 n] W (LogNew W (fun l => l = cutZ n L))) := Lib.hid (fun W hW => by
    have h := iLogCut_any ⟨f, ⟨a, c, s⟩⟩ n W hW ⟨by omega, by omega⟩
    rw [HL.out] at h
    exact h)
  have HSL : Hid (s.map LRec.er = L.recs) := Lib.hid (by rw [← HL.out]; rfl)
  have HFR : Hid (L.from_ = f) := Lib.hid (by rw [← HL.out]; rfl)
  have hs40 : L.recs.length ≤ 40 := ((logB_iff L).1 HLB.out).2.2.2.1
  have hK2 : Hid (n > f ∨ restZ n L = L.recs) := Lib.hid (by rw [← HFR.out]; exact k2)
  have HJ := Lib.hid k1
  have HS40 := Lib.hid hs40
  clear k1 k2 hs40 hn
  have hl0 := BL.out.2 0 _ rfl
  have hl1 := BL.out.2 1 _ rfl
  go_wp2_with fail
  clear hl0 hl1
  refine (HCX.out w5 AL.out).mono ?_
  rintro e w4 ⟨⟨xf, ⟨xa, xc, xs⟩⟩, rfl, hx, hxA, -, b4⟩
  simp only [LLog.val, Loc.val]
  have hB6 : Below w4.heap.size w4 (w4.alloc (Obj.cells #[.int .i64 xf, .slice xa xs.length xc] 25)) := (Below.refl _ _).alloc (Nat.le_refl _) _
  replace B := Lib.hid (nextB B.out (nextB b4 hB6))
  replace AL := Lib.hid (LLog.belowAll AL.out (nextB b4 hB6))
  replace BL := Lib.hid (BL.out.keep (nextB b4 hB6))
  replace AR := Lib.hid (Loc.At.belowAll AR.out (nextB b4 hB6))
  have BX := Lib.hid (Boxed.new w4 #[.int .i64 xf, .slice xa xs.length xc] 25)
  have AX : Hid (LLog.At _ ⟨xf, ⟨xa, xc, xs⟩⟩) := Lib.hid (LLog.belowAll hxA hB6)
  have EX : Hid (xs.map LRec.er = (cutZ n L).recs) := Lib.hid (congrArg Log.recs hx)
  clear b4 hB6 hx hxA
  have HJE : Hid ((xs ++ rs).map LRec.er = s.map LRec.er) := Lib.hid (by rw [List.map_append, EX.out, HRE.out, HSL.out]; exact HJ.out)
  have HLX : Hid (xs.length ≤ 1000000 ∧ rs.length ≤ 1000000) := Lib.hid (by
    have h1 := congrArg List.length HJE.out
    have h2 := congrArg List.length HSL.out
    have h3 := HS40.out
    simp only [List.length_map, List.length_append] at h1 h2
    omega)
  go_wp2_with fail
  generalize w4.alloc (Obj.cells #[.int .i64 xf, .slice xa xs.length xc] 25) = w6 at *
  generalize w4.heap.size = q at *
  have HF : Hid (∀ w', Below w6.heap.size w6 w' → w'.cell? ⟨p, 0, none⟩ = some (.int .i64 f) ∧ w'.cell? ⟨p, 1, none⟩ = some (.slice a s.length c) ∧ w'.cell? ⟨q, 0, none⟩ = some (.int .i64 xf) ∧ w'.cell? ⟨q, 1, none⟩ = some (.slice xa xs.length xc)) :=
    Lib.hid (fun w' h => ⟨(BL.out.keep h).2 0 _ rfl, (BL.out.keep h).2 1 _ rfl, (BX.out.keep h).2 0 _ rfl, (BX.out.keep h).2 1 _ rfl⟩)
  by_cases hgt : f < n
  case pos =>
    refine M.wp_region_way 22 (by kernel_rfl) (by kernel_rfl) (by rfl) (wayApp w6 3 5) (by kernel_rfl) (by kernel_rfl) (Below.refl _ _).drew ?_
    simp only [List.take_succ_cons, List.take_zero, List.drop_succ_cons, List.drop_zero]
    refine M.wpRel_rel (App0 w6.heap.size 49 LRec) rfl App0.stable (by rfl) (fun U => by rfl) (fun m U w' _ hI hG => ?_) ?_
    · have hI' : Below w6.heap.size w6 w' := hI
      unfold relAt
      go_simp
      exact ⟨fun _ => ⟨w'.heap.size, rfl, (Own.made w' 49).mono hI'.size⟩, (Below.refl _ _).alloc (Nat.le_refl _) _⟩
    simp only [Act.put, List.setIfInBounds_toArray, List.set_cons_zero, List.set_cons_succ]
    first
      | (refine M.wpRel_pass (by rfl) (fun U => by rfl) ?_; simp only [Act.put, List.setIfInBounds_toArray, List.set_cons_zero, List.set_cons_succ])
      | (refine' M.wpRel_fix (by rfl) (fun U => by rfl) (fun m U w' _ hI hG => ?_) ?_
         rotate_left
         focus (have hf := HF.out w' hI; unfold relAt; go_simp; first | exact ⟨rfl, Below.refl _ _⟩ | exact Below.refl _ _ | exact ⟨trivial, Below.refl _ _⟩)
         simp only [Act.put, List.setIfInBounds_toArray, List.set_cons_zero, List.set_cons_succ])
    first
      | (refine M.wpRel_pass (by rfl) (fun U => by rfl) ?_; simp only [Act.put, List.setIfInBounds_toArray, List.set_cons_zero, List.set_cons_succ])
      | (refine' M.wpRel_fix (by rfl) (fun U => by rfl) (fun m U w' _ hI hG => ?_) ?_
         rotate_left
         focus (have hf := HF.out w' hI; unfold relAt; go_simp; first | exact ⟨rfl, Below.refl _ _⟩ | exact Below.refl _ _ | exact ⟨trivial, Below.refl _ _⟩)
         simp only [Act.put, List.setIfInBounds_toArray, List.set_cons_zero, List.set_cons_succ])
    refine M.wpRel_chain 0 (App1 w6.heap.size 49 xs) rfl rfl App1.stable (fun U => by rfl) (fun U w' hI hG => ?_) ?_
    · exact chain_app1 _ _ 23 rfl 49 elem_rec _ rfl (hG _ (List.Mem.head _) (by rfl)) ⟨xa, xc, xs⟩ rfl AX.out HLX.out.1 hI
    simp only [Act.put, List.setIfInBounds_toArray, List.set_cons_zero, List.set_cons_succ]
    first
      | (refine M.wpRel_pass (by rfl) (fun U => by rfl) ?_; simp only [Act.put, List.setIfInBounds_toArray, List.set_cons_zero, List.set_cons_succ])
      | (refine' M.wpRel_fix (by rfl) (fun U => by rfl) (fun m U w' _ hI hG => ?_) ?_
         rotate_left
         focus (have hf := HF.out w' hI; unfold relAt; go_simp; first | exact ⟨rfl, Below.refl _ _⟩ | exact Below.refl _ _ | exact ⟨trivial, Below.refl _ _⟩)
         simp only [Act.put, List.setIfInBounds_toArray, List.set_cons_zero, List.set_cons_succ])
    refine M.wpRel_chain 1 (App2 (xs ++ rs)) rfl rfl App2.stable (fun U => by rfl) (fun U w' hI hG => ?_) ?_
    · exact chain_app2 _ _ 23 rfl 49 elem_rec _ rfl (hG _ (List.Mem.head _) (by rfl)) ⟨ra, rc, rs⟩ rfl AR.out HLX.out.1 HLX.out.2 hI
    simp only [Act.put, List.setIfInBounds_toArray, List.set_cons_zero, List.set_cons_succ]
    first
      | (refine M.wpRel_pass (by rfl) (fun U => by rfl) ?_; simp only [Act.put, List.setIfInBounds_toArray, List.set_cons_zero, List.set_cons_succ])
      | (refine' M.wpRel_fix (by rfl) (fun U => by rfl) (fun m U w' _ hI hG => ?_) ?_
         rotate_left
         focus (have hf := HF.out w' hI; unfold relAt; go_simp; first | exact ⟨rfl, Below.refl _ _⟩ | exact Below.refl _ _ | exact ⟨trivial, Below.refl _ _⟩)
         simp only [Act.put, List.setIfInBounds_toArray, List.set_cons_zero, List.set_cons_succ])
    first
      | (refine M.wpRel_pass (by rfl) (fun U => by rfl) ?_; simp only [Act.put, List.setIfInBounds_toArray, List.set_cons_zero, List.set_cons_succ])
      | (refine' M.wpRel_fix (by rfl) (fun U => by rfl) (fun m U w' _ hI hG => ?_) ?_
         rotate_left
         focus (have hf := HF.out w' hI; unfold relAt; go_simp; first | exact ⟨rfl, Below.refl _ _⟩ | exact Below.refl _ _ | exact ⟨trivial, Below.refl _ _⟩)
         simp only [Act.put, List.setIfInBounds_toArray, List.set_cons_zero, List.set_cons_succ])
    refine' M.wpRel_fix (by rfl) (fun U => by rfl) (fun m U w' _ hI hG => ?_) ?_
    rotate_left
    · obtain ⟨-, y, hv, hy, hA⟩ := hG _ (List.Mem.head _) (by rfl)
      simp only at hv
      have hf := HF.out w' hI
      unfold relAt
      simp only [hv]
      go_simp
      clear hf
      exact Calls.mono (lvRecs_yes y ⟨a, c, s⟩ w' hA (LLog.belowAll AL.out hI) (by rw [hy]; exact HJE.out)) fun e w'' h => ⟨h.1, h.2⟩
    simp only [Act.put, List.setIfInBounds_toArray, List.set_cons_zero, List.set_cons_succ]
    first
      | (refine M.wpRel_pass (by rfl) (fun U => by rfl) ?_; simp only [Act.put, List.setIfInBounds_toArray, List.set_cons_zero, List.set_cons_succ])
      | (refine' M.wpRel_fix (by rfl) (fun U => by rfl) (fun m U w' _ hI hG => ?_) ?_
         rotate_left
         focus (have hf := HF.out w' hI; unfold relAt; go_simp; first | exact ⟨rfl, Below.refl _ _⟩ | exact Below.refl _ _ | exact ⟨trivial, Below.refl _ _⟩)
         simp only [Act.put, List.setIfInBounds_toArray, List.set_cons_zero, List.set_cons_succ])
    first
      | (refine M.wpRel_pass (by rfl) (fun U => by rfl) ?_; simp only [Act.put, List.setIfInBounds_toArray, List.set_cons_zero, List.set_cons_succ])
      | (refine' M.wpRel_fix (by rfl) (fun U => by rfl) (fun m U w' _ hI hG => ?_) ?_
         rotate_left
         focus (have hf := HF.out w' hI; unfold relAt; go_simp; first | exact ⟨rfl, Below.refl _ _⟩ | exact Below.refl _ _ | exact ⟨trivial, Below.refl _ _⟩)
         simp only [Act.put, List.setIfInBounds_toArray, List.set_cons_zero, List.set_cons_succ])
    first
      | (refine M.wpRel_pass (by rfl) (fun U => by rfl) ?_; simp only [Act.put, List.setIfInBounds_toArray, List.set_cons_zero, List.set_cons_succ])
      | (refine' M.wpRel_fix (by rfl) (fun U => by rfl) (fun m U w' _ hI hG => ?_) ?_
         rotate_left
         focus (have hf := HF.out w' hI; unfold relAt; go_simp; first | exact ⟨rfl, Below.refl _ _⟩ | exact Below.refl _ _ | exact ⟨trivial, Below.refl _ _⟩)
         simp only [Act.put, List.setIfInBounds_toArray, List.set_cons_zero, List.set_cons_succ])
    first
      | (refine M.wpRel_pass (by rfl) (fun U => by rfl) ?_; simp only [Act.put, List.setIfInBounds_toArray, List.set_cons_zero, List.set_cons_succ])
      | (refine' M.wpRel_fix (by rfl) (fun U => by rfl) (fun m U w' _ hI hG => ?_) ?_
         rotate_left
         focus (have hf := HF.out w' hI; unfold relAt; go_simp; first | exact ⟨rfl, Below.refl _ _⟩ | exact Below.refl _ _ | exact ⟨trivial, Below.refl _ _⟩)
         simp only [Act.put, List.setIfInBounds_toArray, List.set_cons_zero, List.set_cons_succ])
    first
      | (refine M.wpRel_pass (by rfl) (fun U => by rfl) ?_; simp only [Act.put, List.setIfInBounds_toArray, List.set_cons_zero, List.set_cons_succ])
      | (refine' M.wpRel_fix (by rfl) (fun U => by rfl) (fun m U w' _ hI hG => ?_) ?_
         rotate_left
         focus (have hf := HF.out w' hI; unfold relAt; go_simp; first | exact ⟨rfl, Below.refl _ _⟩ | exact Below.refl _ _ | exact ⟨trivial, Below.refl _ _⟩)
         simp only [Act.put, List.setIfInBounds_toArray, List.set_cons_zero, List.set_cons_succ])
    first
      | (refine M.wpRel_pass (by rfl) (fun U => by rfl) ?_; simp only [Act.put, List.setIfInBounds_toArray, List.set_cons_zero, List.set_cons_succ])
      | (refine' M.wpRel_fix (by rfl) (fun U => by rfl) (fun m U w' _ hI hG => ?_) ?_
         rotate_left
         focus (have hf := HF.out w' hI; unfold relAt; go_simp; first | exact ⟨rfl, Below.refl _ _⟩ | exact Below.refl _ _ | exact ⟨trivial, Below.refl _ _⟩)
         simp only [Act.put, List.setIfInBounds_toArray, List.set_cons_zero, List.set_cons_succ])
    first
      | (refine M.wpRel_pass (by rfl) (fun U => by rfl) ?_; simp only [Act.put, List.setIfInBounds_toArray, List.set_cons_zero, List.set_cons_succ])
      | (refine' M.wpRel_fix (by rfl) (fun U => by rfl) (fun m U w' _ hI hG => ?_) ?_
         rotate_left
         focus (have hf := HF.out w' hI; unfold relAt; go_simp; first | exact ⟨rfl, Below.refl _ _⟩ | exact Below.refl _ _ | exact ⟨trivial, Below.refl _ _⟩)
         simp only [Act.put, List.setIfInBounds_toArray, List.set_cons_zero, List.set_cons_succ])
    first
      | (refine M.wpRel_pass (by rfl) (fun U => by rfl) ?_; simp only [Act.put, List.setIfInBounds_toArray, List.set_cons_zero, List.set_cons_succ])
      | (refine' M.wpRel_fix (by rfl) (fun U => by rfl) (fun m U w' _ hI hG => ?_) ?_
         rotate_left
         focus (have hf := HF.out w' hI; unfold relAt; go_simp; first | exact ⟨rfl, Below.refl _ _⟩ | exact Below.refl _ _ | exact ⟨trivial, Below.refl _ _⟩)
         simp only [Act.put, List.setIfInBounds_toArray, List.set_cons_zero, List.set_cons_succ])
    first
      | (refine M.wpRel_pass (by rfl) (fun U => by rfl) ?_; simp only [Act.put, List.setIfInBounds_toArray, List.set_cons_zero, List.set_cons_succ])
      | (refine' M.wpRel_fix (by rfl) (fun U => by rfl) (fun m U w' _ hI hG => ?_) ?_
         rotate_left
         focus (have hf := HF.out w' hI; unfold relAt; go_simp; first | exact ⟨rfl, Below.refl _ _⟩ | exact Below.refl _ _ | exact ⟨trivial, Below.refl _ _⟩)
         simp only [Act.put, List.setIfInBounds_toArray, List.set_cons_zero, List.set_cons_succ])
    first
      | (refine M.wpRel_pass (by rfl) (fun U => by rfl) ?_; simp only [Act.put, List.setIfInBounds_toArray, List.set_cons_zero, List.set_cons_succ])
      | (refine' M.wpRel_fix (by rfl) (fun U => by rfl) (fun m U w' _ hI hG => ?_) ?_
         rotate_left
         focus (have hf := HF.out w' hI; unfold relAt; go_simp; first | exact ⟨rfl, Below.refl _ _⟩ | exact Below.refl _ _ | exact ⟨trivial, Below.refl _ _⟩)
         simp only [Act.put, List.setIfInBounds_toArray, List.set_cons_zero, List.set_cons_succ])
    first
      | (refine M.wpRel_pass (by rfl) (fun U => by rfl) ?_; simp only [Act.put, List.setIfInBounds_toArray, List.set_cons_zero, List.set_cons_succ])
      | (refine' M.wpRel_fix (by rfl) (fun U => by rfl) (fun m U w' _ hI hG => ?_) ?_
         rotate_left
         focus (have hf := HF.out w' hI; unfold relAt; go_simp; first | exact ⟨rfl, Below.refl _ _⟩ | exact Below.refl _ _ | exact ⟨trivial, Below.refl _ _⟩)
         simp only [Act.put, List.setIfInBounds_toArray, List.set_cons_zero, List.set_cons_succ])
    first
      | (refine M.wpRel_pass (by rfl) (fun U => by rfl) ?_; simp only [Act.put, List.setIfInBounds_toArray, List.set_cons_zero, List.set_cons_succ])
      | (refine' M.wpRel_fix (by rfl) (fun U => by rfl) (fun m U w' _ hI hG => ?_) ?_
         rotate_left
         focus (have hf := HF.out w' hI; unfold relAt; go_simp; first | exact ⟨rfl, Below.refl _ _⟩ | exact Below.refl _ _ | exact ⟨trivial, Below.refl _ _⟩)
         simp only [Act.put, List.setIfInBounds_toArray, List.set_cons_zero, List.set_cons_succ])
    first
      | (refine M.wpRel_pass (by rfl) (fun U => by rfl) ?_; simp only [Act.put, List.setIfInBounds_toArray, List.set_cons_zero, List.set_cons_succ])
      | (refine' M.wpRel_fix (by rfl) (fun U => by rfl) (fun m U w' _ hI hG => ?_) ?_
         rotate_left
         focus (have hf := HF.out w' hI; unfold relAt; go_simp; first | exact ⟨rfl, Below.refl _ _⟩ | exact Below.refl _ _ | exact ⟨trivial, Below.refl _ _⟩)
         simp only [Act.put, List.setIfInBounds_toArray, List.set_cons_zero, List.set_cons_succ])
    intro U w7 hI hG
    replace hI : Below w6.heap.size w6 w7 := hI
    replace B := Lib.hid (nextB B.out (hI))
    replace AL := Lib.hid (LLog.belowAll AL.out (hI))
    replace BL := Lib.hid (BL.out.keep (hI))
    replace AX := Lib.hid (LLog.belowAll AX.out (hI))
    replace BX := Lib.hid (BX.out.keep (hI))
    go_wp2_with fail
    go_ret
    exact ⟨rfl, B.out⟩
  case neg =>
    have HRL : Hid (rs.map LRec.er = s.map LRec.er) := Lib.hid (by rw [HRE.out, HSL.out]; exact hK2.out.resolve_left (by omega))
    refine M.wp_region_way 22 (by kernel_rfl) (by kernel_rfl) (by rfl) (wayApp w6 3 5) (by kernel_rfl) (by kernel_rfl) (Below.refl _ _).drew ?_
    simp only [List.take_succ_cons, List.take_zero, List.drop_succ_cons, List.drop_zero]
    refine M.wpRel_rel (App0 w6.heap.size 49 LRec) rfl App0.stable (by rfl) (fun U => by rfl) (fun m U w' _ hI hG => ?_) ?_
    · have hI' : Below w6.heap.size w6 w' := hI
      unfold relAt
      go_simp
      exact ⟨fun _ => ⟨w'.heap.size, rfl, (Own.made w' 49).mono hI'.size⟩, (Below.refl _ _).alloc (Nat.le_refl _) _⟩
    simp only [Act.put, List.setIfInBounds_toArray, List.set_cons_zero, List.set_cons_succ]
    first
      | (refine M.wpRel_pass (by rfl) (fun U => by rfl) ?_; simp only [Act.put, List.setIfInBounds_toArray, List.set_cons_zero, List.set_cons_succ])
      | (refine' M.wpRel_fix (by rfl) (fun U => by rfl) (fun m U w' _ hI hG => ?_) ?_
         rotate_left
         focus (have hf := HF.out w' hI; unfold relAt; go_simp; first | exact ⟨rfl, Below.refl _ _⟩ | exact Below.refl _ _ | exact ⟨trivial, Below.refl _ _⟩)
         simp only [Act.put, List.setIfInBounds_toArray, List.set_cons_zero, List.set_cons_succ])
    first
      | (refine M.wpRel_pass (by rfl) (fun U => by rfl) ?_; simp only [Act.put, List.setIfInBounds_toArray, List.set_cons_zero, List.set_cons_succ])
      | (refine' M.wpRel_fix (by rfl) (fun U => by rfl) (fun m U w' _ hI hG => ?_) ?_
         rotate_left
         focus (have hf := HF.out w' hI; unfold relAt; go_simp; first | exact ⟨rfl, Below.refl _ _⟩ | exact Below.refl _ _ | exact ⟨trivial, Below.refl _ _⟩)
         simp only [Act.put, List.setIfInBounds_toArray, List.set_cons_zero, List.set_cons_succ])
    refine M.wpRel_chain 0 (App1 w6.heap.size 49 xs) rfl rfl App1.stable (fun U => by rfl) (fun U w' hI hG => ?_) ?_
    · exact chain_app1 _ _ 23 rfl 49 elem_rec _ rfl (hG _ (List.Mem.head _) (by rfl)) ⟨xa, xc, xs⟩ rfl AX.out HLX.out.1 hI
    simp only [Act.put, List.setIfInBounds_toArray, List.set_cons_zero, List.set_cons_succ]
    first
      | (refine M.wpRel_pass (by rfl) (fun U => by rfl) ?_; simp only [Act.put, List.setIfInBounds_toArray, List.set_cons_zero, List.set_cons_succ])
      | (refine' M.wpRel_fix (by rfl) (fun U => by rfl) (fun m U w' _ hI hG => ?_) ?_
         rotate_left
         focus (have hf := HF.out w' hI; unfold relAt; go_simp; first | exact ⟨rfl, Below.refl _ _⟩ | exact Below.refl _ _ | exact ⟨trivial, Below.refl _ _⟩)
         simp only [Act.put, List.setIfInBounds_toArray, List.set_cons_zero, List.set_cons_succ])
    refine M.wpRel_chain 1 (App2 (xs ++ rs)) rfl rfl App2.stable (fun U => by rfl) (fun U w' hI hG => ?_) ?_
    · exact chain_app2 _ _ 23 rfl 49 elem_rec _ rfl (hG _ (List.Mem.head _) (by rfl)) ⟨ra, rc, rs⟩ rfl AR.out HLX.out.1 HLX.out.2 hI
    simp only [Act.put, List.setIfInBounds_toArray, List.set_cons_zero, List.set_cons_succ]
    first
      | (refine M.wpRel_pass (by rfl) (fun U => by rfl) ?_; simp only [Act.put, List.setIfInBounds_toArray, List.set_cons_zero, List.set_cons_succ])
      | (refine' M.wpRel_fix (by rfl) (fun U => by rfl) (fun m U w' _ hI hG => ?_) ?_
         rotate_left
         focus (have hf := HF.out w' hI; unfold relAt; go_simp; first | exact ⟨rfl, Below.refl _ _⟩ | exact Below.refl _ _ | exact ⟨trivial, Below.refl _ _⟩)
         simp only [Act.put, List.setIfInBounds_toArray, List.set_cons_zero, List.set_cons_succ])
    first
      | (refine M.wpRel_pass (by rfl) (fun U => by rfl) ?_; simp only [Act.put, List.setIfInBounds_toArray, List.set_cons_zero, List.set_cons_succ])
      | (refine' M.wpRel_fix (by rfl) (fun U => by rfl) (fun m U w' _ hI hG => ?_) ?_
         rotate_left
         focus (have hf := HF.out w' hI; unfold relAt; go_simp; first | exact ⟨rfl, Below.refl _ _⟩ | exact Below.refl _ _ | exact ⟨trivial, Below.refl _ _⟩)
         simp only [Act.put, List.setIfInBounds_toArray, List.set_cons_zero, List.set_cons_succ])
    refine' M.wpRel_fix (by rfl) (fun U => by rfl) (fun m U w' _ hI hG => ?_) ?_
    rotate_left
    · obtain ⟨-, y, hv, hy, hA⟩ := hG _ (List.Mem.head _) (by rfl)
      simp only at hv
      have hf := HF.out w' hI
      unfold relAt
      simp only [hv]
      go_simp
      clear hf
      exact Calls.mono (lvRecs_yes y ⟨a, c, s⟩ w' hA (LLog.belowAll AL.out hI) (by rw [hy]; exact HJE.out)) fun e w'' h => ⟨h.1, h.2⟩
    simp only [Act.put, List.setIfInBounds_toArray, List.set_cons_zero, List.set_cons_succ]
    first
      | (refine M.wpRel_pass (by rfl) (fun U => by rfl) ?_; simp only [Act.put, List.setIfInBounds_toArray, List.set_cons_zero, List.set_cons_succ])
      | (refine' M.wpRel_fix (by rfl) (fun U => by rfl) (fun m U w' _ hI hG => ?_) ?_
         rotate_left
         focus (have hf := HF.out w' hI; unfold relAt; go_simp; first | exact ⟨rfl, Below.refl _ _⟩ | exact Below.refl _ _ | exact ⟨trivial, Below.refl _ _⟩)
         simp only [Act.put, List.setIfInBounds_toArray, List.set_cons_zero, List.set_cons_succ])
    first
      | (refine M.wpRel_pass (by rfl) (fun U => by rfl) ?_; simp only [Act.put, List.setIfInBounds_toArray, List.set_cons_zero, List.set_cons_succ])
      | (refine' M.wpRel_fix (by rfl) (fun U => by rfl) (fun m U w' _ hI hG => ?_) ?_
         rotate_left
         focus (have hf := HF.out w' hI; unfold relAt; go_simp; first | exact ⟨rfl, Below.refl _ _⟩ | exact Below.refl _ _ | exact ⟨trivial, Below.refl _ _⟩)
         simp only [Act.put, List.setIfInBounds_toArray, List.set_cons_zero, List.set_cons_succ])
    first
      | (refine M.wpRel_pass (by rfl) (fun U => by rfl) ?_; simp only [Act.put, List.setIfInBounds_toArray, List.set_cons_zero, List.set_cons_succ])
      | (refine' M.wpRel_fix (by rfl) (fun U => by rfl) (fun m U w' _ hI hG => ?_) ?_
         rotate_left
         focus (have hf := HF.out w' hI; unfold relAt; go_simp; first | exact ⟨rfl, Below.refl _ _⟩ | exact Below.refl _ _ | exact ⟨trivial, Below.refl _ _⟩)
         simp only [Act.put, List.setIfInBounds_toArray, List.set_cons_zero, List.set_cons_succ])
    first
      | (refine M.wpRel_pass (by rfl) (fun U => by rfl) ?_; simp only [Act.put, List.setIfInBounds_toArray, List.set_cons_zero, List.set_cons_succ])
      | (refine' M.wpRel_fix (by rfl) (fun U => by rfl) (fun m U w' _ hI hG => ?_) ?_
         rotate_left
         focus (have hf := HF.out w' hI; unfold relAt; go_simp; first | exact ⟨rfl, Below.refl _ _⟩ | exact Below.refl _ _ | exact ⟨trivial, Below.refl _ _⟩)
         simp only [Act.put, List.setIfInBounds_toArray, List.set_cons_zero, List.set_cons_succ])
    first
      | (refine M.wpRel_pass (by rfl) (fun U => by rfl) ?_; simp only [Act.put, List.setIfInBounds_toArray, List.set_cons_zero, List.set_cons_succ])
      | (refine' M.wpRel_fix (by rfl) (fun U => by rfl) (fun m U w' _ hI hG => ?_) ?_
         rotate_left
         focus (have hf := HF.out w' hI; unfold relAt; go_simp; first | exact ⟨rfl, Below.refl _ _⟩ | exact Below.refl _ _ | exact ⟨trivial, Below.refl _ _⟩)
         simp only [Act.put, List.setIfInBounds_toArray, List.set_cons_zero, List.set_cons_succ])
    first
      | (refine M.wpRel_pass (by rfl) (fun U => by rfl) ?_; simp only [Act.put, List.setIfInBounds_toArray, List.set_cons_zero, List.set_cons_succ])
      | (refine' M.wpRel_fix (by rfl) (fun U => by rfl) (fun m U w' _ hI hG => ?_) ?_
         rotate_left
         focus (have hf := HF.out w' hI; unfold relAt; go_simp; first | exact ⟨rfl, Below.refl _ _⟩ | exact Below.refl _ _ | exact ⟨trivial, Below.refl _ _⟩)
         simp only [Act.put, List.setIfInBounds_toArray, List.set_cons_zero, List.set_cons_succ])
    first
      | (refine M.wpRel_pass (by rfl) (fun U => by rfl) ?_; simp only [Act.put, List.setIfInBounds_toArray, List.set_cons_zero, List.set_cons_succ])
      | (refine' M.wpRel_fix (by rfl) (fun U => by rfl) (fun m U w' _ hI hG => ?_) ?_
         rotate_left
         focus (have hf := HF.out w' hI; unfold relAt; go_simp; first | exact ⟨rfl, Below.refl _ _⟩ | exact Below.refl _ _ | exact ⟨trivial, Below.refl _ _⟩)
         simp only [Act.put, List.setIfInBounds_toArray, List.set_cons_zero, List.set_cons_succ])
    first
      | (refine M.wpRel_pass (by rfl) (fun U => by rfl) ?_; simp only [Act.put, List.setIfInBounds_toArray, List.set_cons_zero, List.set_cons_succ])
      | (refine' M.wpRel_fix (by rfl) (fun U => by rfl) (fun m U w' _ hI hG => ?_) ?_
         rotate_left
         focus (have hf := HF.out w' hI; unfold relAt; go_simp; first | exact ⟨rfl, Below.refl _ _⟩ | exact Below.refl _ _ | exact ⟨trivial, Below.refl _ _⟩)
         simp only [Act.put, List.setIfInBounds_toArray, List.set_cons_zero, List.set_cons_succ])
    first
      | (refine M.wpRel_pass (by rfl) (fun U => by rfl) ?_; simp only [Act.put, List.setIfInBounds_toArray, List.set_cons_zero, List.set_cons_succ])
      | (refine' M.wpRel_fix (by rfl) (fun U => by rfl) (fun m U w' _ hI hG => ?_) ?_
         rotate_left
         focus (have hf := HF.out w' hI; unfold relAt; go_simp; first | exact ⟨rfl, Below.refl _ _⟩ | exact Below.refl _ _ | exact ⟨trivial, Below.refl _ _⟩)
         simp only [Act.put, List.setIfInBounds_toArray, List.set_cons_zero, List.set_cons_succ])
    refine' M.wpRel_fix (by rfl) (fun U => by rfl) (fun m U w' _ hI hG => ?_) ?_
    rotate_left
    · have hf := HF.out w' hI
      unfold relAt
      go_simp
      clear hf
      exact Calls.mono (lvRecs_yes ⟨ra, rc, rs⟩ ⟨a, c, s⟩ w' (Loc.At.belowAll AR.out hI) (LLog.belowAll AL.out hI) HRL.out) fun e w'' h => ⟨h.1, h.2⟩
    simp only [Act.put, List.setIfInBounds_toArray, List.set_cons_zero, List.set_cons_succ]
    first
      | (refine M.wpRel_pass (by rfl) (fun U => by rfl) ?_; simp only [Act.put, List.setIfInBounds_toArray, List.set_cons_zero, List.set_cons_succ])
      | (refine' M.wpRel_fix (by rfl) (fun U => by rfl) (fun m U w' _ hI hG => ?_) ?_
         rotate_left
         focus (have hf := HF.out w' hI; unfold relAt; go_simp; first | exact ⟨rfl, Below.refl _ _⟩ | exact Below.refl _ _ | exact ⟨trivial, Below.refl _ _⟩)
         simp only [Act.put, List.setIfInBounds_toArray, List.set_cons_zero, List.set_cons_succ])
    first
      | (refine M.wpRel_pass (by rfl) (fun U => by rfl) ?_; simp only [Act.put, List.setIfInBounds_toArray, List.set_cons_zero, List.set_cons_succ])
      | (refine' M.wpRel_fix (by rfl) (fun U => by rfl) (fun m U w' _ hI hG => ?_) ?_
         rotate_left
         focus (have hf := HF.out w' hI; unfold relAt; go_simp; first | exact ⟨rfl, Below.refl _ _⟩ | exact Below.refl _ _ | exact ⟨trivial, Below.refl _ _⟩)
         simp only [Act.put, List.setIfInBounds_toArray, List.set_cons_zero, List.set_cons_succ])
    first
      | (refine M.wpRel_pass (by rfl) (fun U => by rfl) ?_; simp only [Act.put, List.setIfInBounds_toArray, List.set_cons_zero, List.set_cons_succ])
      | (refine' M.wpRel_fix (by rfl) (fun U => by rfl) (fun m U w' _ hI hG => ?_) ?_
         rotate_left
         focus (have hf := HF.out w' hI; unfold relAt; go_simp; first | exact ⟨rfl, Below.refl _ _⟩ | exact Below.refl _ _ | exact ⟨trivial, Below.refl _ _⟩)
         simp only [Act.put, List.setIfInBounds_toArray, List.set_cons_zero, List.set_cons_succ])
    intro U w7 hI hG
    replace hI : Below w6.heap.size w6 w7 := hI
    replace B := Lib.hid (nextB B.out (hI))
    replace AL := Lib.hid (LLog.belowAll AL.out (hI))
    replace BL := Lib.hid (BL.out.keep (hI))
    replace AX := Lib.hid (LLog.belowAll AX.out (hI))
    replace BX := Lib.hid (BX.out.keep (hI))
    go_wp2_with fail
    go_ret
    exact ⟨rfl, B.out⟩
end Go.Proofs.YtdbejmnfnbkndaaDoor
