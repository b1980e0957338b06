/- The walks of FnLogFreeRest. -/
import Derived.Test.YtdbejmnfnbkndaaDoorLogKit
namespace Go.Proofs.YtdbejmnfnbkndaaDoor
open Go Go.RowKit

set_option maxRecDepth 100000 in
set_option maxHeartbeats 4000000 in
theorem logFreeRest_walk (x : Loc UInt8) (w : World) (hx : x.At w) :
    Calls Tryd.prog 8 #[x.val] w fun e w' => e = .returned (.bool true) ∧ Below w.heap.size w w' := by
  have h1 := hx.lenMax
  have HX0 := Lib.hid hx
  clear hx
  by_cases hbig : (1048576 : Int) < (x.xs.length : Int)
  · obtain ⟨xa, xc, xs⟩ := x
    simp only [Loc.val] at hbig ⊢
    go_enter Tryd.func8, Tryd.ntmps8
    go_wp2_with fail
    go_ret
    exact ⟨rfl, Below.refl _ _⟩
  have hc := Lib.hid (drawLogFree_any x w HX0.out)
  obtain ⟨ua, uc, us⟩ := x
  simp only [Loc.val] at hbig hc ⊢
  go_enter Tryd.func8, Tryd.ntmps8
  go_wp2_with fail
  refine hc.out.mono ?_
  rintro e w1 ⟨⟨f, ⟨a, c, s⟩⟩, n, rfl, hn1, hn2, ⟨hlo, hhi, hfew, hA, hb, hge⟩⟩
  simp only [LLog.val, Loc.val]
  simp only at hlo hhi hfew
  have hB2 : Below w1.heap.size w1 (w1.alloc (Obj.cells #[.int .i64 f, .slice a s.length c] 25)) := (Below.refl _ _).alloc (Nat.le_refl _) _
  have B := Lib.hid (nextB hb hB2)
  have BL := Lib.hid (Boxed.new w1 #[.int .i64 f, .slice a s.length c] 25)
  have AL : Hid (LLog.At _ ⟨f, ⟨a, c, s⟩⟩) := Lib.hid (LLog.belowAll hA hB2)

  generalize hL : LLog.er ⟨f, ⟨a, c, s⟩⟩ = L
  have HL := Lib.hid hL
  clear hb hA hge hc hL
  go_wp2_with fail
  generalize w1.alloc (Obj.cells #[.int .i64 f, .slice a s.length c] 25) = w2 at *
  generalize w1.heap.size = p at *
  clear hB2
  refine (iLogFree_any ⟨f, ⟨a, c, s⟩⟩ n w2 AL.out ⟨by omega, by omega⟩).mono ?_
  rintro e w3 ⟨⟨xf, ⟨xa, xc, xs⟩⟩, rfl, hx, hxA, -, b3⟩
  simp only [LLog.val, Loc.val]
  have hB4 : Below w3.heap.size w3 (w3.alloc (Obj.cells #[.int .i64 xf, .slice xa xs.length xc] 25)) := (Below.refl _ _).alloc (Nat.le_refl _) _
  replace B := Lib.hid (nextB B.out (nextB b3 hB4))
  replace AL := Lib.hid (LLog.belowAll AL.out (nextB b3 hB4))
  replace BL := Lib.hid (BL.out.keep (nextB b3 hB4))
  have BX := Lib.hid (Boxed.new w3 #[.int .i64 xf, .slice xa xs.length xc] 25)
  have AX : Hid (LLog.At _ ⟨xf, ⟨xa, xc, xs⟩⟩) := Lib.hid (LLog.belowAll hxA hB4)
  have EX : Hid (LLog.er ⟨xf, ⟨xa, xc, xs⟩⟩ = freeZ n L) := Lib.hid (hx.trans (by rw [HL.out]))
  clear b3 hB4 hx hxA
  go_wp2_with fail
  generalize w3.alloc (Obj.cells #[.int .i64 xf, .slice xa xs.length xc] 25) = w4 at *
  generalize w3.heap.size = q at *
  have HSP : Hid (∀ W, LLog.At W ⟨f, ⟨a, c, s⟩⟩ → Calls Tryd.prog 29 #[.agg #[.int .i64 f, .slice a s.length c], .int .i64 n] W (LogNew W (fun l => l = freeZ n L))) := Lib.hid (fun W hW => by
    have h := sLogFree_any ⟨f, ⟨a, c, s⟩⟩ n W hW ⟨by omega, by omega⟩
    rw [HL.out] at h
    exact h)
  generalize hb : logB L = b
  have HLB := Lib.hid hb
  have HOK : Hid (∀ W, LLog.At W ⟨f, ⟨a, c, s⟩⟩ → Calls Tryd.prog 12 #[.agg #[.int .i64 f, .slice a s.length c]] W fun e w' => e = .returned (.bool b) ∧ Below W.heap.size W w') := Lib.hid (fun W hW => by
    have h := sLogOk_any ⟨f, ⟨a, c, s⟩⟩ W hW
    rw [HL.out, HLB.out] at h
    exact h)
  clear hb
  have HF : Hid (∀ w', Below w4.heap.size w4 w' → w'.cell? ⟨p, 0, none⟩ = some (.int .i64 f) ∧ w'.cell? ⟨p, 1, none⟩ = some (.slice a s.length c) ∧ w'.cell? ⟨q, 0, none⟩ = some (.int .i64 xf) ∧ w'.cell? ⟨q, 1, none⟩ = some (.slice xa xs.length xc)) :=
    Lib.hid (fun w' h => ⟨(BL.out.keep h).2 0 _ rfl, (BL.out.keep h).2 1 _ rfl, (BX.out.keep h).2 0 _ rfl, (BX.out.keep h).2 1 _ rfl⟩)
  cases b with
  | false =>
    by_cases hn0 : n < 0
    case pos =>
      refine wp_region_rel 15 (by kernel_rfl) (by kernel_rfl) (by rfl) ?_
      simp only [List.take_succ_cons, List.take_zero, List.drop_succ_cons, List.drop_zero]
      first
        | (refine wpRel_pass (by rfl) (fun U => by rfl) ?_; simp only [Act.put, List.setIfInBounds_toArray, List.set_cons_zero, List.set_cons_succ])
        | (refine' wpRel_fix (by rfl) (fun U => by rfl) (fun m U w' hI hG => ?_) ?_
           rotate_left
           focus (have hf := HF.out w' hI; unfold relAt; go_simp; first | exact ⟨rfl, Below.refl _ _⟩ | exact Below.refl _ _ | exact ⟨trivial, Below.refl _ _⟩)
           simp only [Act.put, List.setIfInBounds_toArray, List.set_cons_zero, List.set_cons_succ])
      first
        | (refine wpRel_pass (by rfl) (fun U => by rfl) ?_; simp only [Act.put, List.setIfInBounds_toArray, List.set_cons_zero, List.set_cons_succ])
        | (refine' wpRel_fix (by rfl) (fun U => by rfl) (fun m U w' hI hG => ?_) ?_
           rotate_left
           focus (have hf := HF.out w' hI; unfold relAt; go_simp; first | exact ⟨rfl, Below.refl _ _⟩ | exact Below.refl _ _ | exact ⟨trivial, Below.refl _ _⟩)
           simp only [Act.put, List.setIfInBounds_toArray, List.set_cons_zero, List.set_cons_succ])
      first
        | (refine wpRel_pass (by rfl) (fun U => by rfl) ?_; simp only [Act.put, List.setIfInBounds_toArray, List.set_cons_zero, List.set_cons_succ])
        | (refine' wpRel_fix (by rfl) (fun U => by rfl) (fun m U w' hI hG => ?_) ?_
           rotate_left
           focus (have hf := HF.out w' hI; unfold relAt; go_simp; first | exact ⟨rfl, Below.refl _ _⟩ | exact Below.refl _ _ | exact ⟨trivial, Below.refl _ _⟩)
           simp only [Act.put, List.setIfInBounds_toArray, List.set_cons_zero, List.set_cons_succ])
      refine wpRel_rel (LogR (freeZ n L)) rfl (LogR.stable _) (by rfl) (fun U => by rfl) (fun m U w' hI hG => ?_) ?_
      · have hf := HF.out w' hI
        unfold relAt
        go_simp
        clear hf
        exact Calls.mono (HSP.out w' (LLog.belowAll AL.out hI)) fun e w'' ⟨y, he, hy, hA, _, hb⟩ => ⟨⟨_, he, y, rfl, hy, hA⟩, hb⟩
      simp only [Act.put, List.setIfInBounds_toArray, List.set_cons_zero, List.set_cons_succ]
      refine' wpRel_fix (by rfl) (fun U => by rfl) (fun m U w' hI hG => ?_) ?_
      rotate_left
      · obtain ⟨y, hv, hy, hA⟩ := hG _ (List.Mem.head _) (by rfl)
        simp only at hv
        have hf := HF.out w' hI
        unfold relAt
        simp only [hv]
        go_simp
        clear hf
        exact Calls.mono (lvLog_yes ⟨xf, ⟨xa, xc, xs⟩⟩ y w' (LLog.belowAll AX.out hI) hA (EX.out.trans hy.symm)) fun e w'' h => ⟨h.1, h.2⟩
      simp only [Act.put, List.setIfInBounds_toArray, List.set_cons_zero, List.set_cons_succ]
      first
        | (refine wpRel_pass (by rfl) (fun U => by rfl) ?_; simp only [Act.put, List.setIfInBounds_toArray, List.set_cons_zero, List.set_cons_succ])
        | (refine' wpRel_fix (by rfl) (fun U => by rfl) (fun m U w' hI hG => ?_) ?_
           rotate_left
           focus (have hf := HF.out w' hI; unfold relAt; go_simp; first | exact ⟨rfl, Below.refl _ _⟩ | exact Below.refl _ _ | exact ⟨trivial, Below.refl _ _⟩)
           simp only [Act.put, List.setIfInBounds_toArray, List.set_cons_zero, List.set_cons_succ])
      first
        | (refine wpRel_pass (by rfl) (fun U => by rfl) ?_; simp only [Act.put, List.setIfInBounds_toArray, List.set_cons_zero, List.set_cons_succ])
        | (refine' wpRel_fix (by rfl) (fun U => by rfl) (fun m U w' hI hG => ?_) ?_
           rotate_left
           focus (have hf := HF.out w' hI; unfold relAt; go_simp; first | exact ⟨rfl, Below.refl _ _⟩ | exact Below.refl _ _ | exact ⟨trivial, Below.refl _ _⟩)
           simp only [Act.put, List.setIfInBounds_toArray, List.set_cons_zero, List.set_cons_succ])
      first
        | (refine wpRel_pass (by rfl) (fun U => by rfl) ?_; simp only [Act.put, List.setIfInBounds_toArray, List.set_cons_zero, List.set_cons_succ])
        | (refine' wpRel_fix (by rfl) (fun U => by rfl) (fun m U w' hI hG => ?_) ?_
           rotate_left
           focus (have hf := HF.out w' hI; unfold relAt; go_simp; first | exact ⟨rfl, Below.refl _ _⟩ | exact Below.refl _ _ | exact ⟨trivial, Below.refl _ _⟩)
           simp only [Act.put, List.setIfInBounds_toArray, List.set_cons_zero, List.set_cons_succ])
      refine' wpRel_fix (by rfl) (fun U => by rfl) (fun m U w' hI hG => ?_) ?_
      rotate_left
      · have hf := HF.out w' hI
        unfold relAt
        go_simp
        clear hf
        exact Calls.mono (HOK.out w' (LLog.belowAll AL.out hI)) fun e w'' h => ⟨h.1, h.2⟩
      simp only [Act.put, List.setIfInBounds_toArray, List.set_cons_zero, List.set_cons_succ]
      first
        | (refine wpRel_pass (by rfl) (fun U => by rfl) ?_; simp only [Act.put, List.setIfInBounds_toArray, List.set_cons_zero, List.set_cons_succ])
        | (refine' wpRel_fix (by rfl) (fun U => by rfl) (fun m U w' hI hG => ?_) ?_
           rotate_left
           focus (have hf := HF.out w' hI; unfold relAt; go_simp; first | exact ⟨rfl, Below.refl _ _⟩ | exact Below.refl _ _ | exact ⟨trivial, Below.refl _ _⟩)
           simp only [Act.put, List.setIfInBounds_toArray, List.set_cons_zero, List.set_cons_succ])
      first
        | (refine wpRel_pass (by rfl) (fun U => by rfl) ?_; simp only [Act.put, List.setIfInBounds_toArray, List.set_cons_zero, List.set_cons_succ])
        | (refine' wpRel_fix (by rfl) (fun U => by rfl) (fun m U w' hI hG => ?_) ?_
           rotate_left
           focus (have hf := HF.out w' hI; unfold relAt; go_simp; first | exact ⟨rfl, Below.refl _ _⟩ | exact Below.refl _ _ | exact ⟨trivial, Below.refl _ _⟩)
           simp only [Act.put, List.setIfInBounds_toArray, List.set_cons_zero, List.set_cons_succ])
      first
        | (refine wpRel_pass (by rfl) (fun U => by rfl) ?_; simp only [Act.put, List.setIfInBounds_toArray, List.set_cons_zero, List.set_cons_succ])
        | (refine' wpRel_fix (by rfl) (fun U => by rfl) (fun m U w' hI hG => ?_) ?_
           rotate_left
           focus (have hf := HF.out w' hI; unfold relAt; go_simp; first | exact ⟨rfl, Below.refl _ _⟩ | exact Below.refl _ _ | exact ⟨trivial, Below.refl _ _⟩)
           simp only [Act.put, List.setIfInBounds_toArray, List.set_cons_zero, List.set_cons_succ])
      first
        | (refine wpRel_pass (by rfl) (fun U => by rfl) ?_; simp only [Act.put, List.setIfInBounds_toArray, List.set_cons_zero, List.set_cons_succ])
        | (refine' wpRel_fix (by rfl) (fun U => by rfl) (fun m U w' hI hG => ?_) ?_
           rotate_left
           focus (have hf := HF.out w' hI; unfold relAt; go_simp; first | exact ⟨rfl, Below.refl _ _⟩ | exact Below.refl _ _ | exact ⟨trivial, Below.refl _ _⟩)
           simp only [Act.put, List.setIfInBounds_toArray, List.set_cons_zero, List.set_cons_succ])
      first
        | (refine wpRel_pass (by rfl) (fun U => by rfl) ?_; simp only [Act.put, List.setIfInBounds_toArray, List.set_cons_zero, List.set_cons_succ])
        | (refine' wpRel_fix (by rfl) (fun U => by rfl) (fun m U w' hI hG => ?_) ?_
           rotate_left
           focus (have hf := HF.out w' hI; unfold relAt; go_simp; first | exact ⟨rfl, Below.refl _ _⟩ | exact Below.refl _ _ | exact ⟨trivial, Below.refl _ _⟩)
           simp only [Act.put, List.setIfInBounds_toArray, List.set_cons_zero, List.set_cons_succ])
      first
        | (refine wpRel_pass (by rfl) (fun U => by rfl) ?_; simp only [Act.put, List.setIfInBounds_toArray, List.set_cons_zero, List.set_cons_succ])
        | (refine' wpRel_fix (by rfl) (fun U => by rfl) (fun m U w' hI hG => ?_) ?_
           rotate_left
           focus (have hf := HF.out w' hI; unfold relAt; go_simp; first | exact ⟨rfl, Below.refl _ _⟩ | exact Below.refl _ _ | exact ⟨trivial, Below.refl _ _⟩)
           simp only [Act.put, List.setIfInBounds_toArray, List.set_cons_zero, List.set_cons_succ])
      intro U w5 hI hG
      replace hI : Below w4.heap.size w4 w5 := hI
      replace B := Lib.hid (nextB B.out (hI))
      replace AL := Lib.hid (LLog.belowAll AL.out (hI))
      replace BL := Lib.hid (BL.out.keep (hI))
      replace AX := Lib.hid (LLog.belowAll AX.out (hI))
      replace BX := Lib.hid (BX.out.keep (hI))
      clear hG HF hI
      go_wp2_with fail
      have HF : Hid (∀ w', Below w5.heap.size w5 w' → w'.cell? ⟨p, 0, none⟩ = some (.int .i64 f) ∧ w'.cell? ⟨p, 1, none⟩ = some (.slice a s.length c) ∧ w'.cell? ⟨q, 0, none⟩ = some (.int .i64 xf) ∧ w'.cell? ⟨q, 1, none⟩ = some (.slice xa xs.length xc)) :=
        Lib.hid (fun w' h => ⟨(BL.out.keep h).2 0 _ rfl, (BL.out.keep h).2 1 _ rfl, (BX.out.keep h).2 0 _ rfl, (BX.out.keep h).2 1 _ rfl⟩)
      refine wp_region_rel 6 (by kernel_rfl) (by kernel_rfl) (by rfl) ?_
      simp only [List.take_succ_cons, List.take_zero, List.drop_succ_cons, List.drop_zero]
      first
        | (refine wpRel_pass (by rfl) (fun U => by rfl) ?_; simp only [Act.put, List.setIfInBounds_toArray, List.set_cons_zero, List.set_cons_succ])
        | (refine' wpRel_fix (by rfl) (fun U => by rfl) (fun m U w' hI hG => ?_) ?_
           rotate_left
           focus (have hf := HF.out w' hI; unfold relAt; go_simp; first | exact ⟨rfl, Below.refl _ _⟩ | exact Below.refl _ _ | exact ⟨trivial, Below.refl _ _⟩)
           simp only [Act.put, List.setIfInBounds_toArray, List.set_cons_zero, List.set_cons_succ])
      first
        | (refine wpRel_pass (by rfl) (fun U => by rfl) ?_; simp only [Act.put, List.setIfInBounds_toArray, List.set_cons_zero, List.set_cons_succ])
        | (refine' wpRel_fix (by rfl) (fun U => by rfl) (fun m U w' hI hG => ?_) ?_
           rotate_left
           focus (have hf := HF.out w' hI; unfold relAt; go_simp; first | exact ⟨rfl, Below.refl _ _⟩ | exact Below.refl _ _ | exact ⟨trivial, Below.refl _ _⟩)
           simp only [Act.put, List.setIfInBounds_toArray, List.set_cons_zero, List.set_cons_succ])
      first
        | (refine wpRel_pass (by rfl) (fun U => by rfl) ?_; simp only [Act.put, List.setIfInBounds_toArray, List.set_cons_zero, List.set_cons_succ])
        | (refine' wpRel_fix (by rfl) (fun U => by rfl) (fun m U w' hI hG => ?_) ?_
           rotate_left
           focus (have hf := HF.out w' hI; unfold relAt; go_simp; first | exact ⟨rfl, Below.refl _ _⟩ | exact Below.refl _ _ | exact ⟨trivial, Below.refl _ _⟩)
           simp only [Act.put, List.setIfInBounds_toArray, List.set_cons_zero, List.set_cons_succ])
      refine wpRel_rel (LogR (freeZ n L)) rfl (LogR.stable _) (by rfl) (fun U => by rfl) (fun m U w' hI hG => ?_) ?_
      · have hf := HF.out w' hI
        unfold relAt
        go_simp
        clear hf
        exact Calls.mono (HSP.out w' (LLog.belowAll AL.out hI)) fun e w'' ⟨y, he, hy, hA, _, hb⟩ => ⟨⟨_, he, y, rfl, hy, hA⟩, hb⟩
      simp only [Act.put, List.setIfInBounds_toArray, List.set_cons_zero, List.set_cons_succ]
      refine' wpRel_fix (by rfl) (fun U => by rfl) (fun m U w' hI hG => ?_) ?_
      rotate_left
      · obtain ⟨y, hv, hy, hA⟩ := hG _ (List.Mem.head _) (by rfl)
        simp only at hv
        have hf := HF.out w' hI
        unfold relAt
        simp only [hv]
        go_simp
        clear hf
        exact Calls.mono (lvLog_yes ⟨xf, ⟨xa, xc, xs⟩⟩ y w' (LLog.belowAll AX.out hI) hA (EX.out.trans hy.symm)) fun e w'' h => ⟨h.1, h.2⟩
      simp only [Act.put, List.setIfInBounds_toArray, List.set_cons_zero, List.set_cons_succ]
      first
        | (refine wpRel_pass (by rfl) (fun U => by rfl) ?_; simp only [Act.put, List.setIfInBounds_toArray, List.set_cons_zero, List.set_cons_succ])
        | (refine' wpRel_fix (by rfl) (fun U => by rfl) (fun m U w' hI hG => ?_) ?_
           rotate_left
           focus (have hf := HF.out w' hI; unfold relAt; go_simp; first | exact ⟨rfl, Below.refl _ _⟩ | exact Below.refl _ _ | exact ⟨trivial, Below.refl _ _⟩)
           simp only [Act.put, List.setIfInBounds_toArray, List.set_cons_zero, List.set_cons_succ])
      intro U w6 hI hG
      replace hI : Below w5.heap.size w5 w6 := hI
      replace B := Lib.hid (nextB B.out (hI))
      replace AL := Lib.hid (LLog.belowAll AL.out (hI))
      replace BL := Lib.hid (BL.out.keep (hI))
      replace AX := Lib.hid (LLog.belowAll AX.out (hI))
      replace BX := Lib.hid (BX.out.keep (hI))
      go_wp2_with fail
      go_ret
      exact ⟨rfl, B.out⟩
    case neg =>
      refine wp_region_rel 15 (by kernel_rfl) (by kernel_rfl) (by rfl) ?_
      simp only [List.take_succ_cons, List.take_zero, List.drop_succ_cons, List.drop_zero]
      first
        | (refine wpRel_pass (by rfl) (fun U => by rfl) ?_; simp only [Act.put, List.setIfInBounds_toArray, List.set_cons_zero, List.set_cons_succ])
        | (refine' wpRel_fix (by rfl) (fun U => by rfl) (fun m U w' hI hG => ?_) ?_
           rotate_left
           focus (have hf := HF.out w' hI; unfold relAt; go_simp; first | exact ⟨rfl, Below.refl _ _⟩ | exact Below.refl _ _ | exact ⟨trivial, Below.refl _ _⟩)
           simp only [Act.put, List.setIfInBounds_toArray, List.set_cons_zero, List.set_cons_succ])
      first
        | (refine wpRel_pass (by rfl) (fun U => by rfl) ?_; simp only [Act.put, List.setIfInBounds_toArray, List.set_cons_zero, List.set_cons_succ])
        | (refine' wpRel_fix (by rfl) (fun U => by rfl) (fun m U w' hI hG => ?_) ?_
           rotate_left
           focus (have hf := HF.out w' hI; unfold relAt; go_simp; first | exact ⟨rfl, Below.refl _ _⟩ | exact Below.refl _ _ | exact ⟨trivial, Below.refl _ _⟩)
           simp only [Act.put, List.setIfInBounds_toArray, List.set_cons_zero, List.set_cons_succ])
      first
        | (refine wpRel_pass (by rfl) (fun U => by rfl) ?_; simp only [Act.put, List.setIfInBounds_toArray, List.set_cons_zero, List.set_cons_succ])
        | (refine' wpRel_fix (by rfl) (fun U => by rfl) (fun m U w' hI hG => ?_) ?_
           rotate_left
           focus (have hf := HF.out w' hI; unfold relAt; go_simp; first | exact ⟨rfl, Below.refl _ _⟩ | exact Below.refl _ _ | exact ⟨trivial, Below.refl _ _⟩)
           simp only [Act.put, List.setIfInBounds_toArray, List.set_cons_zero, List.set_cons_succ])
      refine wpRel_rel (LogR (freeZ n L)) rfl (LogR.stable _) (by rfl) (fun U => by rfl) (fun m U w' hI hG => ?_) ?_
      · have hf := HF.out w' hI
        unfold relAt
        go_simp
        clear hf
        exact Calls.mono (HSP.out w' (LLog.belowAll AL.out hI)) fun e w'' ⟨y, he, hy, hA, _, hb⟩ => ⟨⟨_, he, y, rfl, hy, hA⟩, hb⟩
      simp only [Act.put, List.setIfInBounds_toArray, List.set_cons_zero, List.set_cons_succ]
      refine' wpRel_fix (by rfl) (fun U => by rfl) (fun m U w' hI hG => ?_) ?_
      rotate_left
      · obtain ⟨y, hv, hy, hA⟩ := hG _ (List.Mem.head _) (by rfl)
        simp only at hv
        have hf := HF.out w' hI
        unfold relAt
        simp only [hv]
        go_simp
        clear hf
        exact Calls.mono (lvLog_yes ⟨xf, ⟨xa, xc, xs⟩⟩ y w' (LLog.belowAll AX.out hI) hA (EX.out.trans hy.symm)) fun e w'' h => ⟨h.1, h.2⟩
      simp only [Act.put, List.setIfInBounds_toArray, List.set_cons_zero, List.set_cons_succ]
      first
        | (refine wpRel_pass (by rfl) (fun U => by rfl) ?_; simp only [Act.put, List.setIfInBounds_toArray, List.set_cons_zero, List.set_cons_succ])
        | (refine' wpRel_fix (by rfl) (fun U => by rfl) (fun m U w' hI hG => ?_) ?_
           rotate_left
           focus (have hf := HF.out w' hI; unfold relAt; go_simp; first | exact ⟨rfl, Below.refl _ _⟩ | exact Below.refl _ _ | exact ⟨trivial, Below.refl _ _⟩)
           simp only [Act.put, List.setIfInBounds_toArray, List.set_cons_zero, List.set_cons_succ])
      first
        | (refine wpRel_pass (by rfl) (fun U => by rfl) ?_; simp only [Act.put, List.setIfInBounds_toArray, List.set_cons_zero, List.set_cons_succ])
        | (refine' wpRel_fix (by rfl) (fun U => by rfl) (fun m U w' hI hG => ?_) ?_
           rotate_left
           focus (have hf := HF.out w' hI; unfold relAt; go_simp; first | exact ⟨rfl, Below.refl _ _⟩ | exact Below.refl _ _ | exact ⟨trivial, Below.refl _ _⟩)
           simp only [Act.put, List.setIfInBounds_toArray, List.set_cons_zero, List.set_cons_succ])
      first
        | (refine wpRel_pass (by rfl) (fun U => by rfl) ?_; simp only [Act.put, List.setIfInBounds_toArray, List.set_cons_zero, List.set_cons_succ])
        | (refine' wpRel_fix (by rfl) (fun U => by rfl) (fun m U w' hI hG => ?_) ?_
           rotate_left
           focus (have hf := HF.out w' hI; unfold relAt; go_simp; first | exact ⟨rfl, Below.refl _ _⟩ | exact Below.refl _ _ | exact ⟨trivial, Below.refl _ _⟩)
           simp only [Act.put, List.setIfInBounds_toArray, List.set_cons_zero, List.set_cons_succ])
      refine' wpRel_fix (by rfl) (fun U => by rfl) (fun m U w' hI hG => ?_) ?_
      rotate_left
      · have hf := HF.out w' hI
        unfold relAt
        go_simp
        clear hf
        exact Calls.mono (HOK.out w' (LLog.belowAll AL.out hI)) fun e w'' h => ⟨h.1, h.2⟩
      simp only [Act.put, List.setIfInBounds_toArray, List.set_cons_zero, List.set_cons_succ]
      first
        | (refine wpRel_pass (by rfl) (fun U => by rfl) ?_; simp only [Act.put, List.setIfInBounds_toArray, List.set_cons_zero, List.set_cons_succ])
        | (refine' wpRel_fix (by rfl) (fun U => by rfl) (fun m U w' hI hG => ?_) ?_
           rotate_left
           focus (have hf := HF.out w' hI; unfold relAt; go_simp; first | exact ⟨rfl, Below.refl _ _⟩ | exact Below.refl _ _ | exact ⟨trivial, Below.refl _ _⟩)
           simp only [Act.put, List.setIfInBounds_toArray, List.set_cons_zero, List.set_cons_succ])
      first
        | (refine wpRel_pass (by rfl) (fun U => by rfl) ?_; simp only [Act.put, List.setIfInBounds_toArray, List.set_cons_zero, List.set_cons_succ])
        | (refine' wpRel_fix (by rfl) (fun U => by rfl) (fun m U w' hI hG => ?_) ?_
           rotate_left
           focus (have hf := HF.out w' hI; unfold relAt; go_simp; first | exact ⟨rfl, Below.refl _ _⟩ | exact Below.refl _ _ | exact ⟨trivial, Below.refl _ _⟩)
           simp only [Act.put, List.setIfInBounds_toArray, List.set_cons_zero, List.set_cons_succ])
      first
        | (refine wpRel_pass (by rfl) (fun U => by rfl) ?_; simp only [Act.put, List.setIfInBounds_toArray, List.set_cons_zero, List.set_cons_succ])
        | (refine' wpRel_fix (by rfl) (fun U => by rfl) (fun m U w' hI hG => ?_) ?_
           rotate_left
           focus (have hf := HF.out w' hI; unfold relAt; go_simp; first | exact ⟨rfl, Below.refl _ _⟩ | exact Below.refl _ _ | exact ⟨trivial, Below.refl _ _⟩)
           simp only [Act.put, List.setIfInBounds_toArray, List.set_cons_zero, List.set_cons_succ])
      first
        | (refine wpRel_pass (by rfl) (fun U => by rfl) ?_; simp only [Act.put, List.setIfInBounds_toArray, List.set_cons_zero, List.set_cons_succ])
        | (refine' wpRel_fix (by rfl) (fun U => by rfl) (fun m U w' hI hG => ?_) ?_
           rotate_left
           focus (have hf := HF.out w' hI; unfold relAt; go_simp; first | exact ⟨rfl, Below.refl _ _⟩ | exact Below.refl _ _ | exact ⟨trivial, Below.refl _ _⟩)
           simp only [Act.put, List.setIfInBounds_toArray, List.set_cons_zero, List.set_cons_succ])
      first
        | (refine wpRel_pass (by rfl) (fun U => by rfl) ?_; simp only [Act.put, List.setIfInBounds_toArray, List.set_cons_zero, List.set_cons_succ])
        | (refine' wpRel_fix (by rfl) (fun U => by rfl) (fun m U w' hI hG => ?_) ?_
           rotate_left
           focus (have hf := HF.out w' hI; unfold relAt; go_simp; first | exact ⟨rfl, Below.refl _ _⟩ | exact Below.refl _ _ | exact ⟨trivial, Below.refl _ _⟩)
           simp only [Act.put, List.setIfInBounds_toArray, List.set_cons_zero, List.set_cons_succ])
      first
        | (refine wpRel_pass (by rfl) (fun U => by rfl) ?_; simp only [Act.put, List.setIfInBounds_toArray, List.set_cons_zero, List.set_cons_succ])
        | (refine' wpRel_fix (by rfl) (fun U => by rfl) (fun m U w' hI hG => ?_) ?_
           rotate_left
           focus (have hf := HF.out w' hI; unfold relAt; go_simp; first | exact ⟨rfl, Below.refl _ _⟩ | exact Below.refl _ _ | exact ⟨trivial, Below.refl _ _⟩)
           simp only [Act.put, List.setIfInBounds_toArray, List.set_cons_zero, List.set_cons_succ])
      intro U w5 hI hG
      replace hI : Below w4.heap.size w4 w5 := hI
      replace B := Lib.hid (nextB B.out (hI))
      replace AL := Lib.hid (LLog.belowAll AL.out (hI))
      replace BL := Lib.hid (BL.out.keep (hI))
      replace AX := Lib.hid (LLog.belowAll AX.out (hI))
      replace BX := Lib.hid (BX.out.keep (hI))
      clear hG HF hI
      go_wp2_with fail
      have HF : Hid (∀ w', Below w5.heap.size w5 w' → w'.cell? ⟨p, 0, none⟩ = some (.int .i64 f) ∧ w'.cell? ⟨p, 1, none⟩ = some (.slice a s.length c) ∧ w'.cell? ⟨q, 0, none⟩ = some (.int .i64 xf) ∧ w'.cell? ⟨q, 1, none⟩ = some (.slice xa xs.length xc)) :=
        Lib.hid (fun w' h => ⟨(BL.out.keep h).2 0 _ rfl, (BL.out.keep h).2 1 _ rfl, (BX.out.keep h).2 0 _ rfl, (BX.out.keep h).2 1 _ rfl⟩)
      refine wp_region_rel 6 (by kernel_rfl) (by kernel_rfl) (by rfl) ?_
      simp only [List.take_succ_cons, List.take_zero, List.drop_succ_cons, List.drop_zero]
      first
        | (refine wpRel_pass (by rfl) (fun U => by rfl) ?_; simp only [Act.put, List.setIfInBounds_toArray, List.set_cons_zero, List.set_cons_succ])
        | (refine' wpRel_fix (by rfl) (fun U => by rfl) (fun m U w' hI hG => ?_) ?_
           rotate_left
           focus (have hf := HF.out w' hI; unfold relAt; go_simp; first | exact ⟨rfl, Below.refl _ _⟩ | exact Below.refl _ _ | exact ⟨trivial, Below.refl _ _⟩)
           simp only [Act.put, List.setIfInBounds_toArray, List.set_cons_zero, List.set_cons_succ])
      first
        | (refine wpRel_pass (by rfl) (fun U => by rfl) ?_; simp only [Act.put, List.setIfInBounds_toArray, List.set_cons_zero, List.set_cons_succ])
        | (refine' wpRel_fix (by rfl) (fun U => by rfl) (fun m U w' hI hG => ?_) ?_
           rotate_left
           focus (have hf := HF.out w' hI; unfold relAt; go_simp; first | exact ⟨rfl, Below.refl _ _⟩ | exact Below.refl _ _ | exact ⟨trivial, Below.refl _ _⟩)
           simp only [Act.put, List.setIfInBounds_toArray, List.set_cons_zero, List.set_cons_succ])
      first
        | (refine wpRel_pass (by rfl) (fun U => by rfl) ?_; simp only [Act.put, List.setIfInBounds_toArray, List.set_cons_zero, List.set_cons_succ])
        | (refine' wpRel_fix (by rfl) (fun U => by rfl) (fun m U w' hI hG => ?_) ?_
           rotate_left
           focus (have hf := HF.out w' hI; unfold relAt; go_simp; first | exact ⟨rfl, Below.refl _ _⟩ | exact Below.refl _ _ | exact ⟨trivial, Below.refl _ _⟩)
           simp only [Act.put, List.setIfInBounds_toArray, List.set_cons_zero, List.set_cons_succ])
      refine wpRel_rel (LogR (freeZ n L)) rfl (LogR.stable _) (by rfl) (fun U => by rfl) (fun m U w' hI hG => ?_) ?_
      · have hf := HF.out w' hI
        unfold relAt
        go_simp
        clear hf
        exact Calls.mono (HSP.out w' (LLog.belowAll AL.out hI)) fun e w'' ⟨y, he, hy, hA, _, hb⟩ => ⟨⟨_, he, y, rfl, hy, hA⟩, hb⟩
      simp only [Act.put, List.setIfInBounds_toArray, List.set_cons_zero, List.set_cons_succ]
      refine' wpRel_fix (by rfl) (fun U => by rfl) (fun m U w' hI hG => ?_) ?_
      rotate_left
      · obtain ⟨y, hv, hy, hA⟩ := hG _ (List.Mem.head _) (by rfl)
        simp only at hv
        have hf := HF.out w' hI
        unfold relAt
        simp only [hv]
        go_simp
        clear hf
        exact Calls.mono (lvLog_yes ⟨xf, ⟨xa, xc, xs⟩⟩ y w' (LLog.belowAll AX.out hI) hA (EX.out.trans hy.symm)) fun e w'' h => ⟨h.1, h.2⟩
      simp only [Act.put, List.setIfInBounds_toArray, List.set_cons_zero, List.set_cons_succ]
      first
        | (refine wpRel_pass (by rfl) (fun U => by rfl) ?_; simp only [Act.put, List.setIfInBounds_toArray, List.set_cons_zero, List.set_cons_succ])
        | (refine' wpRel_fix (by rfl) (fun U => by rfl) (fun m U w' hI hG => ?_) ?_
           rotate_left
           focus (have hf := HF.out w' hI; unfold relAt; go_simp; first | exact ⟨rfl, Below.refl _ _⟩ | exact Below.refl _ _ | exact ⟨trivial, Below.refl _ _⟩)
           simp only [Act.put, List.setIfInBounds_toArray, List.set_cons_zero, List.set_cons_succ])
      intro U w6 hI hG
      replace hI : Below w5.heap.size w5 w6 := hI
      replace B := Lib.hid (nextB B.out (hI))
      replace AL := Lib.hid (LLog.belowAll AL.out (hI))
      replace BL := Lib.hid (BL.out.keep (hI))
      replace AX := Lib.hid (LLog.belowAll AX.out (hI))
      replace BX := Lib.hid (BX.out.keep (hI))
      go_wp2_with fail
      go_ret
      exact ⟨rfl, B.out⟩
  | true =>
  by_cases hn0 : n < 0
  case pos =>
    refine wp_region_rel 15 (by kernel_rfl) (by kernel_rfl) (by rfl) ?_
    simp only [List.take_succ_cons, List.take_zero, List.drop_succ_cons, List.drop_zero]
    first
      | (refine wpRel_pass (by rfl) (fun U => by rfl) ?_; simp only [Act.put, List.setIfInBounds_toArray, List.set_cons_zero, List.set_cons_succ])
      | (refine' wpRel_fix (by rfl) (fun U => by rfl) (fun m U w' hI hG => ?_) ?_
         rotate_left
         focus (have hf := HF.out w' hI; unfold relAt; go_simp; first | exact ⟨rfl, Below.refl _ _⟩ | exact Below.refl _ _ | exact ⟨trivial, Below.refl _ _⟩)
         simp only [Act.put, List.setIfInBounds_toArray, List.set_cons_zero, List.set_cons_succ])
    first
      | (refine wpRel_pass (by rfl) (fun U => by rfl) ?_; simp only [Act.put, List.setIfInBounds_toArray, List.set_cons_zero, List.set_cons_succ])
      | (refine' wpRel_fix (by rfl) (fun U => by rfl) (fun m U w' hI hG => ?_) ?_
         rotate_left
         focus (have hf := HF.out w' hI; unfold relAt; go_simp; first | exact ⟨rfl, Below.refl _ _⟩ | exact Below.refl _ _ | exact ⟨trivial, Below.refl _ _⟩)
         simp only [Act.put, List.setIfInBounds_toArray, List.set_cons_zero, List.set_cons_succ])
    first
      | (refine wpRel_pass (by rfl) (fun U => by rfl) ?_; simp only [Act.put, List.setIfInBounds_toArray, List.set_cons_zero, List.set_cons_succ])
      | (refine' wpRel_fix (by rfl) (fun U => by rfl) (fun m U w' hI hG => ?_) ?_
         rotate_left
         focus (have hf := HF.out w' hI; unfold relAt; go_simp; first | exact ⟨rfl, Below.refl _ _⟩ | exact Below.refl _ _ | exact ⟨trivial, Below.refl _ _⟩)
         simp only [Act.put, List.setIfInBounds_toArray, List.set_cons_zero, List.set_cons_succ])
    refine wpRel_rel (LogR (freeZ n L)) rfl (LogR.stable _) (by rfl) (fun U => by rfl) (fun m U w' hI hG => ?_) ?_
    · have hf := HF.out w' hI
      unfold relAt
      go_simp
      clear hf
      exact Calls.mono (HSP.out w' (LLog.belowAll AL.out hI)) fun e w'' ⟨y, he, hy, hA, _, hb⟩ => ⟨⟨_, he, y, rfl, hy, hA⟩, hb⟩
    simp only [Act.put, List.setIfInBounds_toArray, List.set_cons_zero, List.set_cons_succ]
    refine' wpRel_fix (by rfl) (fun U => by rfl) (fun m U w' hI hG => ?_) ?_
    rotate_left
    · obtain ⟨y, hv, hy, hA⟩ := hG _ (List.Mem.head _) (by rfl)
      simp only at hv
      have hf := HF.out w' hI
      unfold relAt
      simp only [hv]
      go_simp
      clear hf
      exact Calls.mono (lvLog_yes ⟨xf, ⟨xa, xc, xs⟩⟩ y w' (LLog.belowAll AX.out hI) hA (EX.out.trans hy.symm)) fun e w'' h => ⟨h.1, h.2⟩
    simp only [Act.put, List.setIfInBounds_toArray, List.set_cons_zero, List.set_cons_succ]
    first
      | (refine wpRel_pass (by rfl) (fun U => by rfl) ?_; simp only [Act.put, List.setIfInBounds_toArray, List.set_cons_zero, List.set_cons_succ])
      | (refine' wpRel_fix (by rfl) (fun U => by rfl) (fun m U w' hI hG => ?_) ?_
         rotate_left
         focus (have hf := HF.out w' hI; unfold relAt; go_simp; first | exact ⟨rfl, Below.refl _ _⟩ | exact Below.refl _ _ | exact ⟨trivial, Below.refl _ _⟩)
         simp only [Act.put, List.setIfInBounds_toArray, List.set_cons_zero, List.set_cons_succ])
    first
      | (refine wpRel_pass (by rfl) (fun U => by rfl) ?_; simp only [Act.put, List.setIfInBounds_toArray, List.set_cons_zero, List.set_cons_succ])
      | (refine' wpRel_fix (by rfl) (fun U => by rfl) (fun m U w' hI hG => ?_) ?_
         rotate_left
         focus (have hf := HF.out w' hI; unfold relAt; go_simp; first | exact ⟨rfl, Below.refl _ _⟩ | exact Below.refl _ _ | exact ⟨trivial, Below.refl _ _⟩)
         simp only [Act.put, List.setIfInBounds_toArray, List.set_cons_zero, List.set_cons_succ])
    first
      | (refine wpRel_pass (by rfl) (fun U => by rfl) ?_; simp only [Act.put, List.setIfInBounds_toArray, List.set_cons_zero, List.set_cons_succ])
      | (refine' wpRel_fix (by rfl) (fun U => by rfl) (fun m U w' hI hG => ?_) ?_
         rotate_left
         focus (have hf := HF.out w' hI; unfold relAt; go_simp; first | exact ⟨rfl, Below.refl _ _⟩ | exact Below.refl _ _ | exact ⟨trivial, Below.refl _ _⟩)
         simp only [Act.put, List.setIfInBounds_toArray, List.set_cons_zero, List.set_cons_succ])
    refine' wpRel_fix (by rfl) (fun U => by rfl) (fun m U w' hI hG => ?_) ?_
    rotate_left
    · have hf := HF.out w' hI
      unfold relAt
      go_simp
      clear hf
      exact Calls.mono (HOK.out w' (LLog.belowAll AL.out hI)) fun e w'' h => ⟨h.1, h.2⟩
    simp only [Act.put, List.setIfInBounds_toArray, List.set_cons_zero, List.set_cons_succ]
    first
      | (refine wpRel_pass (by rfl) (fun U => by rfl) ?_; simp only [Act.put, List.setIfInBounds_toArray, List.set_cons_zero, List.set_cons_succ])
      | (refine' wpRel_fix (by rfl) (fun U => by rfl) (fun m U w' hI hG => ?_) ?_
         rotate_left
         focus (have hf := HF.out w' hI; unfold relAt; go_simp; first | exact ⟨rfl, Below.refl _ _⟩ | exact Below.refl _ _ | exact ⟨trivial, Below.refl _ _⟩)
         simp only [Act.put, List.setIfInBounds_toArray, List.set_cons_zero, List.set_cons_succ])
    first
      | (refine wpRel_pass (by rfl) (fun U => by rfl) ?_; simp only [Act.put, List.setIfInBounds_toArray, List.set_cons_zero, List.set_cons_succ])
      | (refine' wpRel_fix (by rfl) (fun U => by rfl) (fun m U w' hI hG => ?_) ?_
         rotate_left
         focus (have hf := HF.out w' hI; unfold relAt; go_simp; first | exact ⟨rfl, Below.refl _ _⟩ | exact Below.refl _ _ | exact ⟨trivial, Below.refl _ _⟩)
         simp only [Act.put, List.setIfInBounds_toArray, List.set_cons_zero, List.set_cons_succ])
    first
      | (refine wpRel_pass (by rfl) (fun U => by rfl) ?_; simp only [Act.put, List.setIfInBounds_toArray, List.set_cons_zero, List.set_cons_succ])
      | (refine' wpRel_fix (by rfl) (fun U => by rfl) (fun m U w' hI hG => ?_) ?_
         rotate_left
         focus (have hf := HF.out w' hI; unfold relAt; go_simp; first | exact ⟨rfl, Below.refl _ _⟩ | exact Below.refl _ _ | exact ⟨trivial, Below.refl _ _⟩)
         simp only [Act.put, List.setIfInBounds_toArray, List.set_cons_zero, List.set_cons_succ])
    first
      | (refine wpRel_pass (by rfl) (fun U => by rfl) ?_; simp only [Act.put, List.setIfInBounds_toArray, List.set_cons_zero, List.set_cons_succ])
      | (refine' wpRel_fix (by rfl) (fun U => by rfl) (fun m U w' hI hG => ?_) ?_
         rotate_left
         focus (have hf := HF.out w' hI; unfold relAt; go_simp; first | exact ⟨rfl, Below.refl _ _⟩ | exact Below.refl _ _ | exact ⟨trivial, Below.refl _ _⟩)
         simp only [Act.put, List.setIfInBounds_toArray, List.set_cons_zero, List.set_cons_succ])
    first
      | (refine wpRel_pass (by rfl) (fun U => by rfl) ?_; simp only [Act.put, List.setIfInBounds_toArray, List.set_cons_zero, List.set_cons_succ])
      | (refine' wpRel_fix (by rfl) (fun U => by rfl) (fun m U w' hI hG => ?_) ?_
         rotate_left
         focus (have hf := HF.out w' hI; unfold relAt; go_simp; first | exact ⟨rfl, Below.refl _ _⟩ | exact Below.refl _ _ | exact ⟨trivial, Below.refl _ _⟩)
         simp only [Act.put, List.setIfInBounds_toArray, List.set_cons_zero, List.set_cons_succ])
    first
      | (refine wpRel_pass (by rfl) (fun U => by rfl) ?_; simp only [Act.put, List.setIfInBounds_toArray, List.set_cons_zero, List.set_cons_succ])
      | (refine' wpRel_fix (by rfl) (fun U => by rfl) (fun m U w' hI hG => ?_) ?_
         rotate_left
         focus (have hf := HF.out w' hI; unfold relAt; go_simp; first | exact ⟨rfl, Below.refl _ _⟩ | exact Below.refl _ _ | exact ⟨trivial, Below.refl _ _⟩)
         simp only [Act.put, List.setIfInBounds_toArray, List.set_cons_zero, List.set_cons_succ])
    intro U w5 hI hG
    replace hI : Below w4.heap.size w4 w5 := hI
    replace B := Lib.hid (nextB B.out (hI))
    replace AL := Lib.hid (LLog.belowAll AL.out (hI))
    replace BL := Lib.hid (BL.out.keep (hI))
    replace AX := Lib.hid (LLog.belowAll AX.out (hI))
    replace BX := Lib.hid (BX.out.keep (hI))
    clear hG HF hI
    go_wp2_with fail
    have HF : Hid (∀ w', Below w5.heap.size w5 w' → w'.cell? ⟨p, 0, none⟩ = some (.int .i64 f) ∧ w'.cell? ⟨p, 1, none⟩ = some (.slice a s.length c) ∧ w'.cell? ⟨q, 0, none⟩ = some (.int .i64 xf) ∧ w'.cell? ⟨q, 1, none⟩ = some (.slice xa xs.length xc)) :=
      Lib.hid (fun w' h => ⟨(BL.out.keep h).2 0 _ rfl, (BL.out.keep h).2 1 _ rfl, (BX.out.keep h).2 0 _ rfl, (BX.out.keep h).2 1 _ rfl⟩)
    refine wp_region_rel 6 (by kernel_rfl) (by kernel_rfl) (by rfl) ?_
    simp only [List.take_succ_cons, List.take_zero, List.drop_succ_cons, List.drop_zero]
    first
      | (refine wpRel_pass (by rfl) (fun U => by rfl) ?_; simp only [Act.put, List.setIfInBounds_toArray, List.set_cons_zero, List.set_cons_succ])
      | (refine' wpRel_fix (by rfl) (fun U => by rfl) (fun m U w' hI hG => ?_) ?_
         rotate_left
         focus (have hf := HF.out w' hI; unfold relAt; go_simp; first | exact ⟨rfl, Below.refl _ _⟩ | exact Below.refl _ _ | exact ⟨trivial, Below.refl _ _⟩)
         simp only [Act.put, List.setIfInBounds_toArray, List.set_cons_zero, List.set_cons_succ])
    first
      | (refine wpRel_pass (by rfl) (fun U => by rfl) ?_; simp only [Act.put, List.setIfInBounds_toArray, List.set_cons_zero, List.set_cons_succ])
      | (refine' wpRel_fix (by rfl) (fun U => by rfl) (fun m U w' hI hG => ?_) ?_
         rotate_left
         focus (have hf := HF.out w' hI; unfold relAt; go_simp; first | exact ⟨rfl, Below.refl _ _⟩ | exact Below.refl _ _ | exact ⟨trivial, Below.refl _ _⟩)
         simp only [Act.put, List.setIfInBounds_toArray, List.set_cons_zero, List.set_cons_succ])
    first
      | (refine wpRel_pass (by rfl) (fun U => by rfl) ?_; simp only [Act.put, List.setIfInBounds_toArray, List.set_cons_zero, List.set_cons_succ])
      | (refine' wpRel_fix (by rfl) (fun U => by rfl) (fun m U w' hI hG => ?_) ?_
         rotate_left
         focus (have hf := HF.out w' hI; unfold relAt; go_simp; first | exact ⟨rfl, Below.refl _ _⟩ | exact Below.refl _ _ | exact ⟨trivial, Below.refl _ _⟩)
         simp only [Act.put, List.setIfInBounds_toArray, List.set_cons_zero, List.set_cons_succ])
    refine wpRel_rel (LogR (freeZ n L)) rfl (LogR.stable _) (by rfl) (fun U => by rfl) (fun m U w' hI hG => ?_) ?_
    · have hf := HF.out w' hI
      unfold relAt
      go_simp
      clear hf
      exact Calls.mono (HSP.out w' (LLog.belowAll AL.out hI)) fun e w'' ⟨y, he, hy, hA, _, hb⟩ => ⟨⟨_, he, y, rfl, hy, hA⟩, hb⟩
    simp only [Act.put, List.setIfInBounds_toArray, List.set_cons_zero, List.set_cons_succ]
    refine' wpRel_fix (by rfl) (fun U => by rfl) (fun m U w' hI hG => ?_) ?_
    rotate_left
    · obtain ⟨y, hv, hy, hA⟩ := hG _ (List.Mem.head _) (by rfl)
      simp only at hv
      have hf := HF.out w' hI
      unfold relAt
      simp only [hv]
      go_simp
      clear hf
      exact Calls.mono (lvLog_yes ⟨xf, ⟨xa, xc, xs⟩⟩ y w' (LLog.belowAll AX.out hI) hA (EX.out.trans hy.symm)) fun e w'' h => ⟨h.1, h.2⟩
    simp only [Act.put, List.setIfInBounds_toArray, List.set_cons_zero, List.set_cons_succ]
    first
      | (refine wpRel_pass (by rfl) (fun U => by rfl) ?_; simp only [Act.put, List.setIfInBounds_toArray, List.set_cons_zero, List.set_cons_succ])
      | (refine' wpRel_fix (by rfl) (fun U => by rfl) (fun m U w' hI hG => ?_) ?_
         rotate_left
         focus (have hf := HF.out w' hI; unfold relAt; go_simp; first | exact ⟨rfl, Below.refl _ _⟩ | exact Below.refl _ _ | exact ⟨trivial, Below.refl _ _⟩)
         simp only [Act.put, List.setIfInBounds_toArray, List.set_cons_zero, List.set_cons_succ])
    intro U w6 hI hG
    replace hI : Below w5.heap.size w5 w6 := hI
    replace B := Lib.hid (nextB B.out (hI))
    replace AL := Lib.hid (LLog.belowAll AL.out (hI))
    replace BL := Lib.hid (BL.out.keep (hI))
    replace AX := Lib.hid (LLog.belowAll AX.out (hI))
    replace BX := Lib.hid (BX.out.keep (hI))
    go_wp2_with fail
    go_ret
    exact ⟨rfl, B.out⟩
  refine wp_region_rel 15 (by kernel_rfl) (by kernel_rfl) (by rfl) ?_
  simp only [List.take_succ_cons, List.take_zero, List.drop_succ_cons, List.drop_zero]
  first
    | (refine wpRel_pass (by rfl) (fun U => by rfl) ?_; simp only [Act.put, List.setIfInBounds_toArray, List.set_cons_zero, List.set_cons_succ])
    | (refine' wpRel_fix (by rfl) (fun U => by rfl) (fun m U w' hI hG => ?_) ?_
       rotate_left
       focus (have hf := HF.out w' hI; unfold relAt; go_simp; first | exact ⟨rfl, Below.refl _ _⟩ | exact Below.refl _ _ | exact ⟨trivial, Below.refl _ _⟩)
       simp only [Act.put, List.setIfInBounds_toArray, List.set_cons_zero, List.set_cons_succ])
  first
    | (refine wpRel_pass (by rfl) (fun U => by rfl) ?_; simp only [Act.put, List.setIfInBounds_toArray, List.set_cons_zero, List.set_cons_succ])
    | (refine' wpRel_fix (by rfl) (fun U => by rfl) (fun m U w' hI hG => ?_) ?_
       rotate_left
       focus (have hf := HF.out w' hI; unfold relAt; go_simp; first | exact ⟨rfl, Below.refl _ _⟩ | exact Below.refl _ _ | exact ⟨trivial, Below.refl _ _⟩)
       simp only [Act.put, List.setIfInBounds_toArray, List.set_cons_zero, List.set_cons_succ])
  first
    | (refine wpRel_pass (by rfl) (fun U => by rfl) ?_; simp only [Act.put, List.setIfInBounds_toArray, List.set_cons_zero, List.set_cons_succ])
    | (refine' wpRel_fix (by rfl) (fun U => by rfl) (fun m U w' hI hG => ?_) ?_
       rotate_left
       focus (have hf := HF.out w' hI; unfold relAt; go_simp; first | exact ⟨rfl, Below.refl _ _⟩ | exact Below.refl _ _ | exact ⟨trivial, Below.refl _ _⟩)
       simp only [Act.put, List.setIfInBounds_toArray, List.set_cons_zero, List.set_cons_succ])
  refine wpRel_rel (LogR (freeZ n L)) rfl (LogR.stable _) (by rfl) (fun U => by rfl) (fun m U w' hI hG => ?_) ?_
  · have hf := HF.out w' hI
    unfold relAt
    go_simp
    clear hf
    exact Calls.mono (HSP.out w' (LLog.belowAll AL.out hI)) fun e w'' ⟨y, he, hy, hA, _, hb⟩ => ⟨⟨_, he, y, rfl, hy, hA⟩, hb⟩
  simp only [Act.put, List.setIfInBounds_toArray, List.set_cons_zero, List.set_cons_succ]
  refine' wpRel_fix (by rfl) (fun U => by rfl) (fun m U w' hI hG => ?_) ?_
  rotate_left
  · obtain ⟨y, hv, hy, hA⟩ := hG _ (List.Mem.head _) (by rfl)
    simp only at hv
    have hf := HF.out w' hI
    unfold relAt
    simp only [hv]
    go_simp
    clear hf
    exact Calls.mono (lvLog_yes ⟨xf, ⟨xa, xc, xs⟩⟩ y w' (LLog.belowAll AX.out hI) hA (EX.out.trans hy.symm)) fun e w'' h => ⟨h.1, h.2⟩
  simp only [Act.put, List.setIfInBounds_toArray, List.set_cons_zero, List.set_cons_succ]
  first
    | (refine wpRel_pass (by rfl) (fun U => by rfl) ?_; simp only [Act.put, List.setIfInBounds_toArray, List.set_cons_zero, List.set_cons_succ])
    | (refine' wpRel_fix (by rfl) (fun U => by rfl) (fun m U w' hI hG => ?_) ?_
       rotate_left
       focus (have hf := HF.out w' hI; unfold relAt; go_simp; first | exact ⟨rfl, Below.refl _ _⟩ | exact Below.refl _ _ | exact ⟨trivial, Below.refl _ _⟩)
       simp only [Act.put, List.setIfInBounds_toArray, List.set_cons_zero, List.set_cons_succ])
  first
    | (refine wpRel_pass (by rfl) (fun U => by rfl) ?_; simp only [Act.put, List.setIfInBounds_toArray, List.set_cons_zero, List.set_cons_succ])
    | (refine' wpRel_fix (by rfl) (fun U => by rfl) (fun m U w' hI hG => ?_) ?_
       rotate_left
       focus (have hf := HF.out w' hI; unfold relAt; go_simp; first | exact ⟨rfl, Below.refl _ _⟩ | exact Below.refl _ _ | exact ⟨trivial, Below.refl _ _⟩)
       simp only [Act.put, List.setIfInBounds_toArray, List.set_cons_zero, List.set_cons_succ])
  first
    | (refine wpRel_pass (by rfl) (fun U => by rfl) ?_; simp only [Act.put, List.setIfInBounds_toArray, List.set_cons_zero, List.set_cons_succ])
    | (refine' wpRel_fix (by rfl) (fun U => by rfl) (fun m U w' hI hG => ?_) ?_
       rotate_left
       focus (have hf := HF.out w' hI; unfold relAt; go_simp; first | exact ⟨rfl, Below.refl _ _⟩ | exact Below.refl _ _ | exact ⟨trivial, Below.refl _ _⟩)
       simp only [Act.put, List.setIfInBounds_toArray, List.set_cons_zero, List.set_cons_succ])
  refine' wpRel_fix (by rfl) (fun U => by rfl) (fun m U w' hI hG => ?_) ?_
  rotate_left
  · have hf := HF.out w' hI
    unfold relAt
    go_simp
    clear hf
    exact Calls.mono (HOK.out w' (LLog.belowAll AL.out hI)) fun e w'' h => ⟨h.1, h.2⟩
  simp only [Act.put, List.setIfInBounds_toArray, List.set_cons_zero, List.set_cons_succ]
  first
    | (refine wpRel_pass (by rfl) (fun U => by rfl) ?_; simp only [Act.put, List.setIfInBounds_toArray, List.set_cons_zero, List.set_cons_succ])
    | (refine' wpRel_fix (by rfl) (fun U => by rfl) (fun m U w' hI hG => ?_) ?_
       rotate_left
       focus (have hf := HF.out w' hI; unfold relAt; go_simp; first | exact ⟨rfl, Below.refl _ _⟩ | exact Below.refl _ _ | exact ⟨trivial, Below.refl _ _⟩)
       simp only [Act.put, List.setIfInBounds_toArray, List.set_cons_zero, List.set_cons_succ])
  first
    | (refine wpRel_pass (by rfl) (fun U => by rfl) ?_; simp only [Act.put, List.setIfInBounds_toArray, List.set_cons_zero, List.set_cons_succ])
    | (refine' wpRel_fix (by rfl) (fun U => by rfl) (fun m U w' hI hG => ?_) ?_
       rotate_left
       focus (have hf := HF.out w' hI; unfold relAt; go_simp; first | exact ⟨rfl, Below.refl _ _⟩ | exact Below.refl _ _ | exact ⟨trivial, Below.refl _ _⟩)
       simp only [Act.put, List.setIfInBounds_toArray, List.set_cons_zero, List.set_cons_succ])
  first
    | (refine wpRel_pass (by rfl) (fun U => by rfl) ?_; simp only [Act.put, List.setIfInBounds_toArray, List.set_cons_zero, List.set_cons_succ])
    | (refine' wpRel_fix (by rfl) (fun U => by rfl) (fun m U w' hI hG => ?_) ?_
       rotate_left
       focus (have hf := HF.out w' hI; unfold relAt; go_simp; first | exact ⟨rfl, Below.refl _ _⟩ | exact Below.refl _ _ | exact ⟨trivial, Below.refl _ _⟩)
       simp only [Act.put, List.setIfInBounds_toArray, List.set_cons_zero, List.set_cons_succ])
  first
    | (refine wpRel_pass (by rfl) (fun U => by rfl) ?_; simp only [Act.put, List.setIfInBounds_toArray, List.set_cons_zero, List.set_cons_succ])
    | (refine' wpRel_fix (by rfl) (fun U => by rfl) (fun m U w' hI hG => ?_) ?_
       rotate_left
       focus (have hf := HF.out w' hI; unfold relAt; go_simp; first | exact ⟨rfl, Below.refl _ _⟩ | exact Below.refl _ _ | exact ⟨trivial, Below.refl _ _⟩)
       simp only [Act.put, List.setIfInBounds_toArray, List.set_cons_zero, List.set_cons_succ])
  first
    | (refine wpRel_pass (by rfl) (fun U => by rfl) ?_; simp only [Act.put, List.setIfInBounds_toArray, List.set_cons_zero, List.set_cons_succ])
    | (refine' wpRel_fix (by rfl) (fun U => by rfl) (fun m U w' hI hG => ?_) ?_
       rotate_left
       focus (have hf := HF.out w' hI; unfold relAt; go_simp; first | exact ⟨rfl, Below.refl _ _⟩ | exact Below.refl _ _ | exact ⟨trivial, Below.refl _ _⟩)
       simp only [Act.put, List.setIfInBounds_toArray, List.set_cons_zero, List.set_cons_succ])
  first
    | (refine wpRel_pass (by rfl) (fun U => by rfl) ?_; simp only [Act.put, List.setIfInBounds_toArray, List.set_cons_zero, List.set_cons_succ])
    | (refine' wpRel_fix (by rfl) (fun U => by rfl) (fun m U w' hI hG => ?_) ?_
       rotate_left
       focus (have hf := HF.out w' hI; unfold relAt; go_simp; first | exact ⟨rfl, Below.refl _ _⟩ | exact Below.refl _ _ | exact ⟨trivial, Below.refl _ _⟩)
       simp only [Act.put, List.setIfInBounds_toArray, List.set_cons_zero, List.set_cons_succ])
  intro U w5 hI hG
  replace hI : Below w4.heap.size w4 w5 := hI
  replace B := Lib.hid (nextB B.out (hI))
  replace AL := Lib.hid (LLog.belowAll AL.out (hI))
  replace BL := Lib.hid (BL.out.keep (hI))
  replace AX := Lib.hid (LLog.belowAll AX.out (hI))
  replace BX := Lib.hid (BX.out.keep (hI))
  clear hG HF hI
  have hn : 0 ≤ n := by omega
  have hL4 : L.from_ ≤ 4000 := by rw [← HL.out]; simp only [LLog.er]; omega
  obtain ⟨k1, k2⟩ := freeRest_law HLB.out hL4 hn
  have HRX : Hid (∀ W, LLog.At W ⟨xf, ⟨xa, xc, xs⟩⟩ → Calls Tryd.prog 20 #[.agg #[.int .i64 xf, .slice xa xs.length xc], .int .i64 n] W (NewPost W (fun ys : List LRec => ys.map LRec.er = restZ n L))) := Lib.hid (fun W hW => by
    have h := iLogRest_any ⟨xf, ⟨xa, xc, xs⟩⟩ n W hW ⟨by omega, by omega⟩
    rw [EX.out, k1] at h
    exact h)
  have HRL : Hid (∀ W, LLog.At W ⟨f, ⟨a, c, s⟩⟩ → Calls Tryd.prog 20 #[.agg #[.int .i64 f, .slice a s.length c], .int .i64 n] W (NewPost W (fun ys : List LRec => ys.map LRec.er = restZ n L))) := Lib.hid (fun W hW => by
    have h := iLogRest_any ⟨f, ⟨a, c, s⟩⟩ n W hW ⟨by omega, by omega⟩
    rw [HL.out] at h
    exact h)
  have HFX : Hid (∀ W, LLog.At W ⟨xf, ⟨xa, xc, xs⟩⟩ → Calls Tryd.prog 28 #[.agg #[.int .i64 xf, .slice xa xs.length xc], .int .i64 n] W (LogNew W (fun l => l = freeZ n L))) := Lib.hid (fun W hW => by
    have h := iLogFree_any ⟨xf, ⟨xa, xc, xs⟩⟩ n W hW ⟨by omega, by omega⟩
    rw [EX.out, k2] at h
    exact h)
  clear k1 k2 hL4 hn
  go_wp2_with fail
  have HF : Hid (∀ w', Below w5.heap.size w5 w' → w'.cell? ⟨p, 0, none⟩ = some (.int .i64 f) ∧ w'.cell? ⟨p, 1, none⟩ = some (.slice a s.length c) ∧ w'.cell? ⟨q, 0, none⟩ = some (.int .i64 xf) ∧ w'.cell? ⟨q, 1, none⟩ = some (.slice xa xs.length xc)) :=
    Lib.hid (fun w' h => ⟨(BL.out.keep h).2 0 _ rfl, (BL.out.keep h).2 1 _ rfl, (BX.out.keep h).2 0 _ rfl, (BX.out.keep h).2 1 _ rfl⟩)
  refine wp_region_rel 15 (by kernel_rfl) (by kernel_rfl) (by rfl) ?_
  simp only [List.take_succ_cons, List.take_zero, List.drop_succ_cons, List.drop_zero]
  first
    | (refine wpRel_pass (by rfl) (fun U => by rfl) ?_; simp only [Act.put, List.setIfInBounds_toArray, List.set_cons_zero, List.set_cons_succ])
    | (refine' wpRel_fix (by rfl) (fun U => by rfl) (fun m U w' hI hG => ?_) ?_
       rotate_left
       focus (have hf := HF.out w' hI; unfold relAt; go_simp; first | exact ⟨rfl, Below.refl _ _⟩ | exact Below.refl _ _ | exact ⟨trivial, Below.refl _ _⟩)
       simp only [Act.put, List.setIfInBounds_toArray, List.set_cons_zero, List.set_cons_succ])
  first
    | (refine wpRel_pass (by rfl) (fun U => by rfl) ?_; simp only [Act.put, List.setIfInBounds_toArray, List.set_cons_zero, List.set_cons_succ])
    | (refine' wpRel_fix (by rfl) (fun U => by rfl) (fun m U w' hI hG => ?_) ?_
       rotate_left
       focus (have hf := HF.out w' hI; unfold relAt; go_simp; first | exact ⟨rfl, Below.refl _ _⟩ | exact Below.refl _ _ | exact ⟨trivial, Below.refl _ _⟩)
       simp only [Act.put, List.setIfInBounds_toArray, List.set_cons_zero, List.set_cons_succ])
  refine wpRel_rel (RecsR (restZ n L)) rfl (RecsR.stable _) (by rfl) (fun U => by rfl) (fun m U w' hI hG => ?_) ?_
  · have hf := HF.out w' hI
    unfold relAt
    go_simp
    clear hf
    exact Calls.mono (HRX.out w' (LLog.belowAll AX.out hI)) fun e w'' ⟨y, he, hy, hA, _, hb⟩ => ⟨⟨_, he, y, rfl, hy, hA⟩, hb⟩
  simp only [Act.put, List.setIfInBounds_toArray, List.set_cons_zero, List.set_cons_succ]
  first
    | (refine wpRel_pass (by rfl) (fun U => by rfl) ?_; simp only [Act.put, List.setIfInBounds_toArray, List.set_cons_zero, List.set_cons_succ])
    | (refine' wpRel_fix (by rfl) (fun U => by rfl) (fun m U w' hI hG => ?_) ?_
       rotate_left
       focus (have hf := HF.out w' hI; unfold relAt; go_simp; first | exact ⟨rfl, Below.refl _ _⟩ | exact Below.refl _ _ | exact ⟨trivial, Below.refl _ _⟩)
       simp only [Act.put, List.setIfInBounds_toArray, List.set_cons_zero, List.set_cons_succ])
  first
    | (refine wpRel_pass (by rfl) (fun U => by rfl) ?_; simp only [Act.put, List.setIfInBounds_toArray, List.set_cons_zero, List.set_cons_succ])
    | (refine' wpRel_fix (by rfl) (fun U => by rfl) (fun m U w' hI hG => ?_) ?_
       rotate_left
       focus (have hf := HF.out w' hI; unfold relAt; go_simp; first | exact ⟨rfl, Below.refl _ _⟩ | exact Below.refl _ _ | exact ⟨trivial, Below.refl _ _⟩)
       simp only [Act.put, List.setIfInBounds_toArray, List.set_cons_zero, List.set_cons_succ])
  refine wpRel_rel (RecsR (restZ n L)) rfl (RecsR.stable _) (by rfl) (fun U => by rfl) (fun m U w' hI hG => ?_) ?_
  · have hf := HF.out w' hI
    unfold relAt
    go_simp
    clear hf
    exact Calls.mono (HRL.out w' (LLog.belowAll AL.out hI)) fun e w'' ⟨y, he, hy, hA, _, hb⟩ => ⟨⟨_, he, y, rfl, hy, hA⟩, hb⟩
  simp only [Act.put, List.setIfInBounds_toArray, List.set_cons_zero, List.set_cons_succ]
  refine' wpRel_fix (by rfl) (fun U => by rfl) (fun m U w' hI hG => ?_) ?_
  rotate_left
  · obtain ⟨y, hv, hy, hA⟩ := hG _ (List.Mem.head _) (by rfl)
    obtain ⟨z, hu, hz, hZ⟩ := hG _ (List.Mem.tail _ (List.Mem.head _)) (by rfl)
    simp only at hv hu
    have hf := HF.out w' hI
    unfold relAt
    simp only [hv, hu]
    go_simp
    clear hf
    exact Calls.mono (lvRecs_yes z y w' hZ hA (hz.trans hy.symm)) fun e w'' h => ⟨h.1, h.2⟩
  simp only [Act.put, List.setIfInBounds_toArray, List.set_cons_zero, List.set_cons_succ]
  first
    | (refine wpRel_pass (by rfl) (fun U => by rfl) ?_; simp only [Act.put, List.setIfInBounds_toArray, List.set_cons_zero, List.set_cons_succ])
    | (refine' wpRel_fix (by rfl) (fun U => by rfl) (fun m U w' hI hG => ?_) ?_
       rotate_left
       focus (have hf := HF.out w' hI; unfold relAt; go_simp; first | exact ⟨rfl, Below.refl _ _⟩ | exact Below.refl _ _ | exact ⟨trivial, Below.refl _ _⟩)
       simp only [Act.put, List.setIfInBounds_toArray, List.set_cons_zero, List.set_cons_succ])
  first
    | (refine wpRel_pass (by rfl) (fun U => by rfl) ?_; simp only [Act.put, List.setIfInBounds_toArray, List.set_cons_zero, List.set_cons_succ])
    | (refine' wpRel_fix (by rfl) (fun U => by rfl) (fun m U w' hI hG => ?_) ?_
       rotate_left
       focus (have hf := HF.out w' hI; unfold relAt; go_simp; first | exact ⟨rfl, Below.refl _ _⟩ | exact Below.refl _ _ | exact ⟨trivial, Below.refl _ _⟩)
       simp only [Act.put, List.setIfInBounds_toArray, List.set_cons_zero, List.set_cons_succ])
  first
    | (refine wpRel_pass (by rfl) (fun U => by rfl) ?_; simp only [Act.put, List.setIfInBounds_toArray, List.set_cons_zero, List.set_cons_succ])
    | (refine' wpRel_fix (by rfl) (fun U => by rfl) (fun m U w' hI hG => ?_) ?_
       rotate_left
       focus (have hf := HF.out w' hI; unfold relAt; go_simp; first | exact ⟨rfl, Below.refl _ _⟩ | exact Below.refl _ _ | exact ⟨trivial, Below.refl _ _⟩)
       simp only [Act.put, List.setIfInBounds_toArray, List.set_cons_zero, List.set_cons_succ])
  refine wpRel_rel (LogR (freeZ n L)) rfl (LogR.stable _) (by rfl) (fun U => by rfl) (fun m U w' hI hG => ?_) ?_
  · have hf := HF.out w' hI
    unfold relAt
    go_simp
    clear hf
    exact Calls.mono (HFX.out w' (LLog.belowAll AX.out hI)) fun e w'' ⟨y, he, hy, hA, _, hb⟩ => ⟨⟨_, he, y, rfl, hy, hA⟩, hb⟩
  simp only [Act.put, List.setIfInBounds_toArray, List.set_cons_zero, List.set_cons_succ]
  first
    | (refine wpRel_pass (by rfl) (fun U => by rfl) ?_; simp only [Act.put, List.setIfInBounds_toArray, List.set_cons_zero, List.set_cons_succ])
    | (refine' wpRel_fix (by rfl) (fun U => by rfl) (fun m U w' hI hG => ?_) ?_
       rotate_left
       focus (have hf := HF.out w' hI; unfold relAt; go_simp; first | exact ⟨rfl, Below.refl _ _⟩ | exact Below.refl _ _ | exact ⟨trivial, Below.refl _ _⟩)
       simp only [Act.put, List.setIfInBounds_toArray, List.set_cons_zero, List.set_cons_succ])
  refine' wpRel_fix (by rfl) (fun U => by rfl) (fun m U w' hI hG => ?_) ?_
  rotate_left
  · obtain ⟨y, hv, hy, hA⟩ := hG _ (List.Mem.head _) (by rfl)
    simp only at hv
    have hf := HF.out w' hI
    unfold relAt
    simp only [hv]
    go_simp
    clear hf
    exact Calls.mono (lvLog_yes y ⟨xf, ⟨xa, xc, xs⟩⟩ w' hA (LLog.belowAll AX.out hI) (hy.trans EX.out.symm)) fun e w'' h => ⟨h.1, h.2⟩
  simp only [Act.put, List.setIfInBounds_toArray, List.set_cons_zero, List.set_cons_succ]
  first
    | (refine wpRel_pass (by rfl) (fun U => by rfl) ?_; simp only [Act.put, List.setIfInBounds_toArray, List.set_cons_zero, List.set_cons_succ])
    | (refine' wpRel_fix (by rfl) (fun U => by rfl) (fun m U w' hI hG => ?_) ?_
       rotate_left
       focus (have hf := HF.out w' hI; unfold relAt; go_simp; first | exact ⟨rfl, Below.refl _ _⟩ | exact Below.refl _ _ | exact ⟨trivial, Below.refl _ _⟩)
       simp only [Act.put, List.setIfInBounds_toArray, List.set_cons_zero, List.set_cons_succ])
  first
    | (refine wpRel_pass (by rfl) (fun U => by rfl) ?_; simp only [Act.put, List.setIfInBounds_toArray, List.set_cons_zero, List.set_cons_succ])
    | (refine' wpRel_fix (by rfl) (fun U => by rfl) (fun m U w' hI hG => ?_) ?_
       rotate_left
       focus (have hf := HF.out w' hI; unfold relAt; go_simp; first | exact ⟨rfl, Below.refl _ _⟩ | exact Below.refl _ _ | exact ⟨trivial, Below.refl _ _⟩)
       simp only [Act.put, List.setIfInBounds_toArray, List.set_cons_zero, List.set_cons_succ])
  intro U w6 hI hG
  replace hI : Below w5.heap.size w5 w6 := hI
  replace B := Lib.hid (nextB B.out (hI))
  replace AL := Lib.hid (LLog.belowAll AL.out (hI))
  replace BL := Lib.hid (BL.out.keep (hI))
  replace AX := Lib.hid (LLog.belowAll AX.out (hI))
  replace BX := Lib.hid (BX.out.keep (hI))
  go_wp2_with fail
  go_ret
  exact ⟨rfl, B.out⟩
end Go.Proofs.YtdbejmnfnbkndaaDoor
