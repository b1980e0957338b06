/- The walks of FnLogFree. -/
import Derived.Test.YtdbejmnfnbkndaaDoorLogKit
namespace Go.Proofs.YtdbejmnfnbkndaaDoor
open Go Go.RowKit

set_option maxRecDepth 100000 in
set_option maxHeartbeats 8000000 in
theorem logFree_walk (x : Loc UInt8) (w : World) (hx : x.At w) :
    Calls Tryd.prog 9 #[x.val] w fun e w' => e = .returned (.bool true) ∧ Below w.heap.size w w' := by
  have h1 := hx.lenMax
  have HX0 := Lib.hid hx
  clear hx
  by_cases hbig : (1048576 : Int) < (x.xs.length : Int)
  · obtain ⟨xa, xc, xs⟩ := x
    simp only [Loc.val] at hbig ⊢
    go_enter Tryd.func9, Tryd.ntmps9
    go_wp2_with fail
    go_ret
    exact ⟨rfl, Below.refl _ _⟩
  have hc := Lib.hid (drawLogFree_any x w HX0.out)
  obtain ⟨ua, uc, us⟩ := x
  simp only [Loc.val] at hbig hc ⊢
  go_enter Tryd.func9, Tryd.ntmps9
  go_wp2_with fail
  refine hc.out.mono ?_
  rintro e w1 ⟨⟨f, ⟨a, c, s⟩⟩, n, rfl, hn1, hn2, ⟨hlo, hhi, hfew, hA, hb, hge⟩⟩
  simp only [LLog.val, Loc.val]
  simp only at hlo hhi hfew
  have hB2 : Below w1.heap.size w1 (w1.alloc (Obj.cells #[.int .i64 f, .slice a s.length c] 25)) := (Below.refl _ _).alloc (Nat.le_refl _) _
  have B := Lib.hid (nextB hb hB2)
  have BL := Lib.hid (Boxed.new w1 #[.int .i64 f, .slice a s.length c] 25)
  have AL : Hid (LLog.At _ ⟨f, ⟨a, c, s⟩⟩) := Lib.hid (LLog.belowAll hA hB2)

  generalize hL : LLog.er ⟨f, ⟨a, c, s⟩⟩ = L
  have HL := Lib.hid hL
  clear hb hA hge hc hL
  go_wp2_with fail
  generalize w1.alloc (Obj.cells #[.int .i64 f, .slice a s.length c] 25) = w2 at *
  generalize w1.heap.size = p at *
  clear hB2
  refine (iLogFree_any ⟨f, ⟨a, c, s⟩⟩ n w2 AL.out ⟨by omega, by omega⟩).mono ?_
  rintro e w3 ⟨⟨xf, ⟨xa, xc, xs⟩⟩, rfl, hx, hxA, -, b3⟩
  simp only [LLog.val, Loc.val]
  have hB4 : Below w3.heap.size w3 (w3.alloc (Obj.cells #[.int .i64 xf, .slice xa xs.length xc] 25)) := (Below.refl _ _).alloc (Nat.le_refl _) _
  replace B := Lib.hid (nextB B.out (nextB b3 hB4))
  replace AL := Lib.hid (LLog.belowAll AL.out (nextB b3 hB4))
  replace BL := Lib.hid (BL.out.keep (nextB b3 hB4))
  have BX := Lib.hid (Boxed.new w3 #[.int .i64 xf, .slice xa xs.length xc] 25)
  have AX : Hid (LLog.At _ ⟨xf, ⟨xa, xc, xs⟩⟩) := Lib.hid (LLog.belowAll hxA hB4)
  have EX : Hid (LLog.er ⟨xf, ⟨xa, xc, xs⟩⟩ = freeZ n L) := Lib.hid (hx.trans (by rw [HL.out]))
  clear b3 hB4 hx hxA
  go_wp2_with fail
  generalize w3.alloc (Obj.cells #[.int .i64 xf, .slice xa xs.length xc] 25) = w4 at *
  generalize w3.heap.size = q at *
  have HSP : Hid (∀ W, LLog.At W ⟨f, ⟨a, c, s⟩⟩ → Calls Tryd.prog 29 #[.agg #[.int .i64 f, .slice a s.length c], .int .i64 n] W (LogNew W (fun l => l = freeZ n L))) := Lib.hid (fun W hW => by
    have h := sLogFree_any ⟨f, ⟨a, c, s⟩⟩ n W hW ⟨by omega, by omega⟩
    rw [HL.out] at h
    exact h)
  generalize hb : logB L = b
  have HLB := Lib.hid hb
  have HOK : Hid (∀ W, LLog.At W ⟨f, ⟨a, c, s⟩⟩ → Calls Tryd.prog 12 #[.agg #[.int .i64 f, .slice a s.length c]] W fun e w' => e = .returned (.bool b) ∧ Below W.heap.size W w') := Lib.hid (fun W hW => by
    have h := sLogOk_any ⟨f, ⟨a, c, s⟩⟩ W hW
    rw [HL.out, HLB.out] at h
    exact h)
  clear hb
  have HF : Hid (∀ w', Below w4.heap.size w4 w' → w'.cell? ⟨p, 0, none⟩ = some (.int .i64 f) ∧ w'.cell? ⟨p, 1, none⟩ = some (.slice a s.length c) ∧ w'.cell? ⟨q, 0, none⟩ = some (.int .i64 xf) ∧ w'.cell? ⟨q, 1, none⟩ = some (.slice xa xs.length xc)) :=
    Lib.hid (fun w' h => ⟨(BL.out.keep h).2 0 _ rfl, (BL.out.keep h).2 1 _ rfl, (BX.out.keep h).2 0 _ rfl, (BX.out.keep h).2 1 _ rfl⟩)
  cases b with
  | false =>
    by_cases hn0 : n < 0
    case pos =>
      refine wp_region_rel 15 (by kernel_rfl) (by kernel_rfl) (by rfl) ?_
      simp only [List.take_succ_cons, List.take_zero, List.drop_succ_cons, List.drop_zero]
      first
        | (refine wpRel_pass (by rfl) (fun U => by rfl) ?_; simp only [Act.put, List.setIfInBounds_toArray, List.set_cons_zero, List.set_cons_succ])
        | (refine' wpRel_fix (by rfl) (fun U => by rfl) (fun m U w' hI hG => ?_) ?_
           rotate_left
           focus (have hf := HF.out w' hI; unfold relAt; go_simp; first | exact ⟨rfl, Below.refl _ _⟩ | exact Below.refl _ _ | exact ⟨trivial, Below.refl _ _⟩)
           simp only [Act.put, List.setIfInBounds_toArray, List.set_cons_zero, List.set_cons_succ])
      first
        | (refine wpRel_pass (by rfl) (fun U => by rfl) ?_; simp only [Act.put, List.setIfInBounds_toArray, List.set_cons_zero, List.set_cons_succ])
        | (refine' wpRel_fix (by rfl) (fun U => by rfl) (fun m U w' hI hG => ?_) ?_
           rotate_left
           focus (have hf := HF.out w' hI; unfold relAt; go_simp; first | exact ⟨rfl, Below.refl _ _⟩ | exact Below.refl _ _ | exact ⟨trivial, Below.refl _ _⟩)
           simp only [Act.put, List.setIfInBounds_toArray, List.set_cons_zero, List.set_cons_succ])
      first
        | (refine wpRel_pass (by rfl) (fun U => by rfl) ?_; simp only [Act.put, List.setIfInBounds_toArray, List.set_cons_zero, List.set_cons_succ])
        | (refine' wpRel_fix (by rfl) (fun U => by rfl) (fun m U w' hI hG => ?_) ?_
           rotate_left
           focus (have hf := HF.out w' hI; unfold relAt; go_simp; first | exact ⟨rfl, Below.refl _ _⟩ | exact Below.refl _ _ | exact ⟨trivial, Below.refl _ _⟩)
           simp only [Act.put, List.setIfInBounds_toArray, List.set_cons_zero, List.set_cons_succ])
      refine wpRel_rel (LogR (freeZ n L)) rfl (LogR.stable _) (by rfl) (fun U => by rfl) (fun m U w' hI hG => ?_) ?_
      · have hf := HF.out w' hI
        unfold relAt
        go_simp
        clear hf
        exact Calls.mono (HSP.out w' (LLog.belowAll AL.out hI)) fun e w'' ⟨y, he, hy, hA, _, hb⟩ => ⟨⟨_, he, y, rfl, hy, hA⟩, hb⟩
      simp only [Act.put, List.setIfInBounds_toArray, List.set_cons_zero, List.set_cons_succ]
      refine' wpRel_fix (by rfl) (fun U => by rfl) (fun m U w' hI hG => ?_) ?_
      rotate_left
      · obtain ⟨y, hv, hy, hA⟩ := hG _ (List.Mem.head _) (by rfl)
        simp only at hv
        have hf := HF.out w' hI
        unfold relAt
        simp only [hv]
        go_simp
        clear hf
        exact Calls.mono (lvLog_yes ⟨xf, ⟨xa, xc, xs⟩⟩ y w' (LLog.belowAll AX.out hI) hA (EX.out.trans hy.symm)) fun e w'' h => ⟨h.1, h.2⟩
      simp only [Act.put, List.setIfInBounds_toArray, List.set_cons_zero, List.set_cons_succ]
      first
        | (refine wpRel_pass (by rfl) (fun U => by rfl) ?_; simp only [Act.put, List.setIfInBounds_toArray, List.set_cons_zero, List.set_cons_succ])
        | (refine' wpRel_fix (by rfl) (fun U => by rfl) (fun m U w' hI hG => ?_) ?_
           rotate_left
           focus (have hf := HF.out w' hI; unfold relAt; go_simp; first | exact ⟨rfl, Below.refl _ _⟩ | exact Below.refl _ _ | exact ⟨trivial, Below.refl _ _⟩)
           simp only [Act.put, List.setIfInBounds_toArray, List.set_cons_zero, List.set_cons_succ])
      first
        | (refine wpRel_pass (by rfl) (fun U => by rfl) ?_; simp only [Act.put, List.setIfInBounds_toArray, List.set_cons_zero, List.set_cons_succ])
        | (refine' wpRel_fix (by rfl) (fun U => by rfl) (fun m U w' hI hG => ?_) ?_
           rotate_left
           focus (have hf := HF.out w' hI; unfold relAt; go_simp; first | exact ⟨rfl, Below.refl _ _⟩ | exact Below.refl _ _ | exact ⟨trivial, Below.refl _ _⟩)
           simp only [Act.put, List.setIfInBounds_toArray, List.set_cons_zero, List.set_cons_succ])
      first
        | (refine wpRel_pass (by rfl) (fun U => by rfl) ?_; simp only [Act.put, List.setIfInBounds_toArray, List.set_cons_zero, List.set_cons_succ])
        | (refine' wpRel_fix (by rfl) (fun U => by rfl) (fun m U w' hI hG => ?_) ?_
           rotate_left
           focus (have hf := HF.out w' hI; unfold relAt; go_simp; first | exact ⟨rfl, Below.refl _ _⟩ | exact Below.refl _ _ | exact ⟨trivial, Below.refl _ _⟩)
           simp only [Act.put, List.setIfInBounds_toArray, List.set_cons_zero, List.set_cons_succ])
      refine' wpRel_fix (by rfl) (fun U => by rfl) (fun m U w' hI hG => ?_) ?_
      rotate_left
      · have hf := HF.out w' hI
        unfold relAt
        go_simp
        clear hf
        exact Calls.mono (HOK.out w' (LLog.belowAll AL.out hI)) fun e w'' h => ⟨h.1, h.2⟩
      simp only [Act.put, List.setIfInBounds_toArray, List.set_cons_zero, List.set_cons_succ]
      first
        | (refine wpRel_pass (by rfl) (fun U => by rfl) ?_; simp only [Act.put, List.setIfInBounds_toArray, List.set_cons_zero, List.set_cons_succ])
        | (refine' wpRel_fix (by rfl) (fun U => by rfl) (fun m U w' hI hG => ?_) ?_
           rotate_left
           focus (have hf := HF.out w' hI; unfold relAt; go_simp; first | exact ⟨rfl, Below.refl _ _⟩ | exact Below.refl _ _ | exact ⟨trivial, Below.refl _ _⟩)
           simp only [Act.put, List.setIfInBounds_toArray, List.set_cons_zero, List.set_cons_succ])
      first
        | (refine wpRel_pass (by rfl) (fun U => by rfl) ?_; simp only [Act.put, List.setIfInBounds_toArray, List.set_cons_zero, List.set_cons_succ])
        | (refine' wpRel_fix (by rfl) (fun U => by rfl) (fun m U w' hI hG => ?_) ?_
           rotate_left
           focus (have hf := HF.out w' hI; unfold relAt; go_simp; first | exact ⟨rfl, Below.refl _ _⟩ | exact Below.refl _ _ | exact ⟨trivial, Below.refl _ _⟩)
           simp only [Act.put, List.setIfInBounds_toArray, List.set_cons_zero, List.set_cons_succ])
      first
        | (refine wpRel_pass (by rfl) (fun U => by rfl) ?_; simp only [Act.put, List.setIfInBounds_toArray, List.set_cons_zero, List.set_cons_succ])
        | (refine' wpRel_fix (by rfl) (fun U => by rfl) (fun m U w' hI hG => ?_) ?_
           rotate_left
           focus (have hf := HF.out w' hI; unfold relAt; go_simp; first | exact ⟨rfl, Below.refl _ _⟩ | exact Below.refl _ _ | exact ⟨trivial, Below.refl _ _⟩)
           simp only [Act.put, List.setIfInBounds_toArray, List.set_cons_zero, List.set_cons_succ])
      first
        | (refine wpRel_pass (by rfl) (fun U => by rfl) ?_; simp only [Act.put, List.setIfInBounds_toArray, List.set_cons_zero, List.set_cons_succ])
        | (refine' wpRel_fix (by rfl) (fun U => by rfl) (fun m U w' hI hG => ?_) ?_
           rotate_left
           focus (have hf := HF.out w' hI; unfold relAt; go_simp; first | exact ⟨rfl, Below.refl _ _⟩ | exact Below.refl _ _ | exact ⟨trivial, Below.refl _ _⟩)
           simp only [Act.put, List.setIfInBounds_toArray, List.set_cons_zero, List.set_cons_succ])
      first
        | (refine wpRel_pass (by rfl) (fun U => by rfl) ?_; simp only [Act.put, List.setIfInBounds_toArray, List.set_cons_zero, List.set_cons_succ])
        | (refine' wpRel_fix (by rfl) (fun U => by rfl) (fun m U w' hI hG => ?_) ?_
           rotate_left
           focus (have hf := HF.out w' hI; unfold relAt; go_simp; first | exact ⟨rfl, Below.refl _ _⟩ | exact Below.refl _ _ | exact ⟨trivial, Below.refl _ _⟩)
           simp only [Act.put, List.setIfInBounds_toArray, List.set_cons_zero, List.set_cons_succ])
      first
        | (refine wpRel_pass (by rfl) (fun U => by rfl) ?_; simp only [Act.put, List.setIfInBounds_toArray, List.set_cons_zero, List.set_cons_succ])
        | (refine' wpRel_fix (by rfl) (fun U => by rfl) (fun m U w' hI hG => ?_) ?_
           rotate_left
           focus (have hf := HF.out w' hI; unfold relAt; go_simp; first | exact ⟨rfl, Below.refl _ _⟩ | exact Below.refl _ _ | exact ⟨trivial, Below.refl _ _⟩)
           simp only [Act.put, List.setIfInBounds_toArray, List.set_cons_zero, List.set_cons_succ])
      intro U w5 hI hG
      replace hI : Below w4.heap.size w4 w5 := hI
      replace B := Lib.hid (nextB B.out (hI))
      replace AL := Lib.hid (LLog.belowAll AL.out (hI))
      replace BL := Lib.hid (BL.out.keep (hI))
      replace AX := Lib.hid (LLog.belowAll AX.out (hI))
      replace BX := Lib.hid (BX.out.keep (hI))
      clear hG HF hI
      go_wp2_with fail
      have HF : Hid (∀ w', Below w5.heap.size w5 w' → w'.cell? ⟨p, 0, none⟩ = some (.int .i64 f) ∧ w'.cell? ⟨p, 1, none⟩ = some (.slice a s.length c) ∧ w'.cell? ⟨q, 0, none⟩ = some (.int .i64 xf) ∧ w'.cell? ⟨q, 1, none⟩ = some (.slice xa xs.length xc)) :=
        Lib.hid (fun w' h => ⟨(BL.out.keep h).2 0 _ rfl, (BL.out.keep h).2 1 _ rfl, (BX.out.keep h).2 0 _ rfl, (BX.out.keep h).2 1 _ rfl⟩)
      refine wp_region_rel 6 (by kernel_rfl) (by kernel_rfl) (by rfl) ?_
      simp only [List.take_succ_cons, List.take_zero, List.drop_succ_cons, List.drop_zero]
      first
        | (refine wpRel_pass (by rfl) (fun U => by rfl) ?_; simp only [Act.put, List.setIfInBounds_toArray, List.set_cons_zero, List.set_cons_succ])
        | (refine' wpRel_fix (by rfl) (fun U => by rfl) (fun m U w' hI hG => ?_) ?_
           rotate_left
           focus (have hf := HF.out w' hI; unfold relAt; go_simp; first | exact ⟨rfl, Below.refl _ _⟩ | exact Below.refl _ _ | exact ⟨trivial, Below.refl _ _⟩)
           simp only [Act.put, List.setIfInBounds_toArray, List.set_cons_zero, List.set_cons_succ])
      first
        | (refine wpRel_pass (by rfl) (fun U => by rfl) ?_; simp only [Act.put, List.setIfInBounds_toArray, List.set_cons_zero, List.set_cons_succ])
        | (refine' wpRel_fix (by rfl) (fun U => by rfl) (fun m U w' hI hG => ?_) ?_
           rotate_left
           focus (have hf := HF.out w' hI; unfold relAt; go_simp; first | exact ⟨rfl, Below.refl _ _⟩ | exact Below.refl _ _ | exact ⟨trivial, Below.refl _ _⟩)
           simp only [Act.put, List.setIfInBounds_toArray, List.set_cons_zero, List.set_cons_succ])
      first
        | (refine wpRel_pass (by rfl) (fun U => by rfl) ?_; simp only [Act.put, List.setIfInBounds_toArray, List.set_cons_zero, List.set_cons_succ])
        | (refine' wpRel_fix (by rfl) (fun U => by rfl) (fun m U w' hI hG => ?_) ?_
           rotate_left
           focus (have hf := HF.out w' hI; unfold relAt; go_simp; first | exact ⟨rfl, Below.refl _ _⟩ | exact Below.refl _ _ | exact ⟨trivial, Below.refl _ _⟩)
           simp only [Act.put, List.setIfInBounds_toArray, List.set_cons_zero, List.set_cons_succ])
      refine wpRel_rel (LogR (freeZ n L)) rfl (LogR.stable _) (by rfl) (fun U => by rfl) (fun m U w' hI hG => ?_) ?_
      · have hf := HF.out w' hI
        unfold relAt
        go_simp
        clear hf
        exact Calls.mono (HSP.out w' (LLog.belowAll AL.out hI)) fun e w'' ⟨y, he, hy, hA, _, hb⟩ => ⟨⟨_, he, y, rfl, hy, hA⟩, hb⟩
      simp only [Act.put, List.setIfInBounds_toArray, List.set_cons_zero, List.set_cons_succ]
      refine' wpRel_fix (by rfl) (fun U => by rfl) (fun m U w' hI hG => ?_) ?_
      rotate_left
      · obtain ⟨y, hv, hy, hA⟩ := hG _ (List.Mem.head _) (by rfl)
        simp only at hv
        have hf := HF.out w' hI
        unfold relAt
        simp only [hv]
        go_simp
        clear hf
        exact Calls.mono (lvLog_yes ⟨xf, ⟨xa, xc, xs⟩⟩ y w' (LLog.belowAll AX.out hI) hA (EX.out.trans hy.symm)) fun e w'' h => ⟨h.1, h.2⟩
      simp only [Act.put, List.setIfInBounds_toArray, List.set_cons_zero, List.set_cons_succ]
      first
        | (refine wpRel_pass (by rfl) (fun U => by rfl) ?_; simp only [Act.put, List.setIfInBounds_toArray, List.set_cons_zero, List.set_cons_succ])
        | (refine' wpRel_fix (by rfl) (fun U => by rfl) (fun m U w' hI hG => ?_) ?_
           rotate_left
           focus (have hf := HF.out w' hI; unfold relAt; go_simp; first | exact ⟨rfl, Below.refl _ _⟩ | exact Below.refl _ _ | exact ⟨trivial, Below.refl _ _⟩)
           simp only [Act.put, List.setIfInBounds_toArray, List.set_cons_zero, List.set_cons_succ])
      intro U w6 hI hG
      replace hI : Below w5.heap.size w5 w6 := hI
      replace B := Lib.hid (nextB B.out (hI))
      replace AL := Lib.hid (LLog.belowAll AL.out (hI))
      replace BL := Lib.hid (BL.out.keep (hI))
      replace AX := Lib.hid (LLog.belowAll AX.out (hI))
      replace BX := Lib.hid (BX.out.keep (hI))
      go_wp2_with fail
      go_ret
      exact ⟨rfl, B.out⟩
    case neg =>
      refine wp_region_rel 15 (by kernel_rfl) (by kernel_rfl) (by rfl) ?_
      simp only [List.take_succ_cons, List.take_zero, List.drop_succ_cons, List.drop_zero]
      first
        | (refine wpRel_pass (by rfl) (fun U => by rfl) ?_; simp only [Act.put, List.setIfInBounds_toArray, List.set_cons_zero, List.set_cons_succ])
        | (refine' wpRel_fix (by rfl) (fun U => by rfl) (fun m U w' hI hG => ?_) ?_
           rotate_left
           focus (have hf := HF.out w' hI; unfold relAt; go_simp; first | exact ⟨rfl, Below.refl _ _⟩ | exact Below.refl _ _ | exact ⟨trivial, Below.refl _ _⟩)
           simp only [Act.put, List.setIfInBounds_toArray, List.set_cons_zero, List.set_cons_succ])
      first
        | (refine wpRel_pass (by rfl) (fun U => by rfl) ?_; simp only [Act.put, List.setIfInBounds_toArray, List.set_cons_zero, List.set_cons_succ])
        | (refine' wpRel_fix (by rfl) (fun U => by rfl) (fun m U w' hI hG => ?_) ?_
           rotate_left
           focus (have hf := HF.out w' hI; unfold relAt; go_simp; first | exact ⟨rfl, Below.refl _ _⟩ | exact Below.refl _ _ | exact ⟨trivial, Below.refl _ _⟩)
           simp only [Act.put, List.setIfInBounds_toArray, List.set_cons_zero, List.set_cons_succ])
      first
        | (refine wpRel_pass (by rfl) (fun U => by rfl) ?_; simp only [Act.put, List.setIfInBounds_toArray, List.set_cons_zero, List.set_cons_succ])
        | (refine' wpRel_fix (by rfl) (fun U => by rfl) (fun m U w' hI hG => ?_) ?_
           rotate_left
           focus (have hf := HF.out w' hI; unfold relAt; go_simp; first | exact ⟨rfl, Below.refl _ _⟩ | exact Below.refl _ _ | exact ⟨trivial, Below.refl _ _⟩)
           simp only [Act.put, List.setIfInBounds_toArray, List.set_cons_zero, List.set_cons_succ])
      refine wpRel_rel (LogR (freeZ n L)) rfl (LogR.stable _) (by rfl) (fun U => by rfl) (fun m U w' hI hG => ?_) ?_
      · have hf := HF.out w' hI
        unfold relAt
        go_simp
        clear hf
        exact Calls.mono (HSP.out w' (LLog.belowAll AL.out hI)) fun e w'' ⟨y, he, hy, hA, _, hb⟩ => ⟨⟨_, he, y, rfl, hy, hA⟩, hb⟩
      simp only [Act.put, List.setIfInBounds_toArray, List.set_cons_zero, List.set_cons_succ]
      refine' wpRel_fix (by rfl) (fun U => by rfl) (fun m U w' hI hG => ?_) ?_
      rotate_left
      · obtain ⟨y, hv, hy, hA⟩ := hG _ (List.Mem.head _) (by rfl)
        simp only at hv
        have hf := HF.out w' hI
        unfold relAt
        simp only [hv]
        go_simp
        clear hf
        exact Calls.mono (lvLog_yes ⟨xf, ⟨xa, xc, xs⟩⟩ y w' (LLog.belowAll AX.out hI) hA (EX.out.trans hy.symm)) fun e w'' h => ⟨h.1, h.2⟩
      simp only [Act.put, List.setIfInBounds_toArray, List.set_cons_zero, List.set_cons_succ]
      first
        | (refine wpRel_pass (by rfl) (fun U => by rfl) ?_; simp only [Act.put, List.setIfInBounds_toArray, List.set_cons_zero, List.set_cons_succ])
        | (refine' wpRel_fix (by rfl) (fun U => by rfl) (fun m U w' hI hG => ?_) ?_
           rotate_left
           focus (have hf := HF.out w' hI; unfold relAt; go_simp; first | exact ⟨rfl, Below.refl _ _⟩ | exact Below.refl _ _ | exact ⟨trivial, Below.refl _ _⟩)
           simp only [Act.put, List.setIfInBounds_toArray, List.set_cons_zero, List.set_cons_succ])
      first
        | (refine wpRel_pass (by rfl) (fun U => by rfl) ?_; simp only [Act.put, List.setIfInBounds_toArray, List.set_cons_zero, List.set_cons_succ])
        | (refine' wpRel_fix (by rfl) (fun U => by rfl) (fun m U w' hI hG => ?_) ?_
           rotate_left
           focus (have hf := HF.out w' hI; unfold relAt; go_simp; first | exact ⟨rfl, Below.refl _ _⟩ | exact Below.refl _ _ | exact ⟨trivial, Below.refl _ _⟩)
           simp only [Act.put, List.setIfInBounds_toArray, List.set_cons_zero, List.set_cons_succ])
      first
        | (refine wpRel_pass (by rfl) (fun U => by rfl) ?_; simp only [Act.put, List.setIfInBounds_toArray, List.set_cons_zero, List.set_cons_succ])
        | (refine' wpRel_fix (by rfl) (fun U => by rfl) (fun m U w' hI hG => ?_) ?_
           rotate_left
           focus (have hf := HF.out w' hI; unfold relAt; go_simp; first | exact ⟨rfl, Below.refl _ _⟩ | exact Below.refl _ _ | exact ⟨trivial, Below.refl _ _⟩)
           simp only [Act.put, List.setIfInBounds_toArray, List.set_cons_zero, List.set_cons_succ])
      refine' wpRel_fix (by rfl) (fun U => by rfl) (fun m U w' hI hG => ?_) ?_
      rotate_left
      · have hf := HF.out w' hI
        unfold relAt
        go_simp
        clear hf
        exact Calls.mono (HOK.out w' (LLog.belowAll AL.out hI)) fun e w'' h => ⟨h.1, h.2⟩
      simp only [Act.put, List.setIfInBounds_toArray, List.set_cons_zero, List.set_cons_succ]
      first
        | (refine wpRel_pass (by rfl) (fun U => by rfl) ?_; simp only [Act.put, List.setIfInBounds_toArray, List.set_cons_zero, List.set_cons_succ])
        | (refine' wpRel_fix (by rfl) (fun U => by rfl) (fun m U w' hI hG => ?_) ?_
           rotate_left
           focus (have hf := HF.out w' hI; unfold relAt; go_simp; first | exact ⟨rfl, Below.refl _ _⟩ | exact Below.refl _ _ | exact ⟨trivial, Below.refl _ _⟩)
           simp only [Act.put, List.setIfInBounds_toArray, List.set_cons_zero, List.set_cons_succ])
      first
        | (refine wpRel_pass (by rfl) (fun U => by rfl) ?_; simp only [Act.put, List.setIfInBounds_toArray, List.set_cons_zero, List.set_cons_succ])
        | (refine' wpRel_fix (by rfl) (fun U => by rfl) (fun m U w' hI hG => ?_) ?_
           rotate_left
           focus (have hf := HF.out w' hI; unfold relAt; go_simp; first | exact ⟨rfl, Below.refl _ _⟩ | exact Below.refl _ _ | exact ⟨trivial, Below.refl _ _⟩)
           simp only [Act.put, List.setIfInBounds_toArray, List.set_cons_zero, List.set_cons_succ])
      first
        | (refine wpRel_pass (by rfl) (fun U => by rfl) ?_; simp only [Act.put, List.setIfInBounds_toArray, List.set_cons_zero, List.set_cons_succ])
        | (refine' wpRel_fix (by rfl) (fun U => by rfl) (fun m U w' hI hG => ?_) ?_
           rotate_left
           focus (have hf := HF.out w' hI; unfold relAt; go_simp; first | exact ⟨rfl, Below.refl _ _⟩ | exact Below.refl _ _ | exact ⟨trivial, Below.refl _ _⟩)
           simp only [Act.put, List.setIfInBounds_toArray, List.set_cons_zero, List.set_cons_succ])
      first
        | (refine wpRel_pass (by rfl) (fun U => by rfl) ?_; simp only [Act.put, List.setIfInBounds_toArray, List.set_cons_zero, List.set_cons_succ])
        | (refine' wpRel_fix (by rfl) (fun U => by rfl) (fun m U w' hI hG => ?_) ?_
           rotate_left
           focus (have hf := HF.out w' hI; unfold relAt; go_simp; first | exact ⟨rfl, Below.refl _ _⟩ | exact Below.refl _ _ | exact ⟨trivial, Below.refl _ _⟩)
           simp only [Act.put, List.setIfInBounds_toArray, List.set_cons_zero, List.set_cons_succ])
      first
        | (refine wpRel_pass (by rfl) (fun U => by rfl) ?_; simp only [Act.put, List.setIfInBounds_toArray, List.set_cons_zero, List.set_cons_succ])
        | (refine' wpRel_fix (by rfl) (fun U => by rfl) (fun m U w' hI hG => ?_) ?_
           rotate_left
           focus (have hf := HF.out w' hI; unfold relAt; go_simp; first | exact ⟨rfl, Below.refl _ _⟩ | exact Below.refl _ _ | exact ⟨trivial, Below.refl _ _⟩)
           simp only [Act.put, List.setIfInBounds_toArray, List.set_cons_zero, List.set_cons_succ])
      first
        | (refine wpRel_pass (by rfl) (fun U => by rfl) ?_; simp only [Act.put, List.setIfInBounds_toArray, List.set_cons_zero, List.set_cons_succ])
        | (refine' wpRel_fix (by rfl) (fun U => by rfl) (fun m U w' hI hG => ?_) ?_
           rotate_left
           focus (have hf := HF.out w' hI; unfold relAt; go_simp; first | exact ⟨rfl, Below.refl _ _⟩ | exact Below.refl _ _ | exact ⟨trivial, Below.refl _ _⟩)
           simp only [Act.put, List.setIfInBounds_toArray, List.set_cons_zero, List.set_cons_succ])
      intro U w5 hI hG
      replace hI : Below w4.heap.size w4 w5 := hI
      replace B := Lib.hid (nextB B.out (hI))
      replace AL := Lib.hid (LLog.belowAll AL.out (hI))
      replace BL := Lib.hid (BL.out.keep (hI))
      replace AX := Lib.hid (LLog.belowAll AX.out (hI))
      replace BX := Lib.hid (BX.out.keep (hI))
      clear hG HF hI
      go_wp2_with fail
      have HF : Hid (∀ w', Below w5.heap.size w5 w' → w'.cell? ⟨p, 0, none⟩ = some (.int .i64 f) ∧ w'.cell? ⟨p, 1, none⟩ = some (.slice a s.length c) ∧ w'.cell? ⟨q, 0, none⟩ = some (.int .i64 xf) ∧ w'.cell? ⟨q, 1, none⟩ = some (.slice xa xs.length xc)) :=
        Lib.hid (fun w' h => ⟨(BL.out.keep h).2 0 _ rfl, (BL.out.keep h).2 1 _ rfl, (BX.out.keep h).2 0 _ rfl, (BX.out.keep h).2 1 _ rfl⟩)
      refine wp_region_rel 6 (by kernel_rfl) (by kernel_rfl) (by rfl) ?_
      simp only [List.take_succ_cons, List.take_zero, List.drop_succ_cons, List.drop_zero]
      first
        | (refine wpRel_pass (by rfl) (fun U => by rfl) ?_; simp only [Act.put, List.setIfInBounds_toArray, List.set_cons_zero, List.set_cons_succ])
        | (refine' wpRel_fix (by rfl) (fun U => by rfl) (fun m U w' hI hG => ?_) ?_
           rotate_left
           focus (have hf := HF.out w' hI; unfold relAt; go_simp; first | exact ⟨rfl, Below.refl _ _⟩ | exact Below.refl _ _ | exact ⟨trivial, Below.refl _ _⟩)
           simp only [Act.put, List.setIfInBounds_toArray, List.set_cons_zero, List.set_cons_succ])
      first
        | (refine wpRel_pass (by rfl) (fun U => by rfl) ?_; simp only [Act.put, List.setIfInBounds_toArray, List.set_cons_zero, List.set_cons_succ])
        | (refine' wpRel_fix (by rfl) (fun U => by rfl) (fun m U w' hI hG => ?_) ?_
           rotate_left
           focus (have hf := HF.out w' hI; unfold relAt; go_simp; first | exact ⟨rfl, Below.refl _ _⟩ | exact Below.refl _ _ | exact ⟨trivial, Below.refl _ _⟩)
           simp only [Act.put, List.setIfInBounds_toArray, List.set_cons_zero, List.set_cons_succ])
      first
        | (refine wpRel_pass (by rfl) (fun U => by rfl) ?_; simp only [Act.put, List.setIfInBounds_toArray, List.set_cons_zero, List.set_cons_succ])
        | (refine' wpRel_fix (by rfl) (fun U => by rfl) (fun m U w' hI hG => ?_) ?_
           rotate_left
           focus (have hf := HF.out w' hI; unfold relAt; go_simp; first | exact ⟨rfl, Below.refl _ _⟩ | exact Below.refl _ _ | exact ⟨trivial, Below.refl _ _⟩)
           simp only [Act.put, List.setIfInBounds_toArray, List.set_cons_zero, List.set_cons_succ])
      refine wpRel_rel (LogR (freeZ n L)) rfl (LogR.stable _) (by rfl) (fun U => by rfl) (fun m U w' hI hG => ?_) ?_
      · have hf := HF.out w' hI
        unfold relAt
        go_simp
        clear hf
        exact Calls.mono (HSP.out w' (LLog.belowAll AL.out hI)) fun e w'' ⟨y, he, hy, hA, _, hb⟩ => ⟨⟨_, he, y, rfl, hy, hA⟩, hb⟩
      simp only [Act.put, List.setIfInBounds_toArray, List.set_cons_zero, List.set_cons_succ]
      refine' wpRel_fix (by rfl) (fun U => by rfl) (fun m U w' hI hG => ?_) ?_
      rotate_left
      · obtain ⟨y, hv, hy, hA⟩ := hG _ (List.Mem.head _) (by rfl)
        simp only at hv
        have hf := HF.out w' hI
        unfold relAt
        simp only [hv]
        go_simp
        clear hf
        exact Calls.mono (lvLog_yes ⟨xf, ⟨xa, xc, xs⟩⟩ y w' (LLog.belowAll AX.out hI) hA (EX.out.trans hy.symm)) fun e w'' h => ⟨h.1, h.2⟩
      simp only [Act.put, List.setIfInBounds_toArray, List.set_cons_zero, List.set_cons_succ]
      first
        | (refine wpRel_pass (by rfl) (fun U => by rfl) ?_; simp only [Act.put, List.setIfInBounds_toArray, List.set_cons_zero, List.set_cons_succ])
        | (refine' wpRel_fix (by rfl) (fun U => by rfl) (fun m U w' hI hG => ?_) ?_
           rotate_left
           focus (have hf := HF.out w' hI; unfold relAt; go_simp; first | exact ⟨rfl, Below.refl _ _⟩ | exact Below.refl _ _ | exact ⟨trivial, Below.refl _ _⟩)
           simp only [Act.put, List.setIfInBounds_toArray, List.set_cons_zero, List.set_cons_succ])
      intro U w6 hI hG
      replace hI : Below w5.heap.size w5 w6 := hI
      replace B := Lib.hid (nextB B.out (hI))
      replace AL := Lib.hid (LLog.belowAll AL.out (hI))
      replace BL := Lib.hid (BL.out.keep (hI))
      replace AX := Lib.hid (LLog.belowAll AX.out (hI))
      replace BX := Lib.hid (BX.out.keep (hI))
      go_wp2_with fail
      go_ret
      exact ⟨rfl, B.out⟩
  | true =>
  by_cases hn0 : n < 0
  case pos =>
    refine wp_region_rel 15 (by kernel_rfl) (by kernel_rfl) (by rfl) ?_
    simp only [List.take_succ_cons, List.take_zero, List.drop_succ_cons, List.drop_zero]
    first
      | (refine wpRel_pass (by rfl) (fun U => by rfl) ?_; simp only [Act.put, List.setIfInBounds_toArray, List.set_cons_zero, List.set_cons_succ])
      | (refine' wpRel_fix (by rfl) (fun U => by rfl) (fun m U w' hI hG => ?_) ?_
         rotate_left
         focus (have hf := HF.out w' hI; unfold relAt; go_simp; first | exact ⟨rfl, Below.refl _ _⟩ | exact Below.refl _ _ | exact ⟨trivial, Below.refl _ _⟩)
         simp only [Act.put, List.setIfInBounds_toArray, List.set_cons_zero, List.set_cons_succ])
    first
      | (refine wpRel_pass (by rfl) (fun U => by rfl) ?_; simp only [Act.put, List.setIfInBounds_toArray, List.set_cons_zero, List.set_cons_succ])
      | (refine' wpRel_fix (by rfl) (fun U => by rfl) (fun m U w' hI hG => ?_) ?_
         rotate_left
         focus (have hf := HF.out w' hI; unfold relAt; go_simp; first | exact ⟨rfl, Below.refl _ _⟩ | exact Below.refl _ _ | exact ⟨trivial, Below.refl _ _⟩)
         simp only [Act.put, List.setIfInBounds_toArray, List.set_cons_zero, List.set_cons_succ])
    first
      | (refine wpRel_pass (by rfl) (fun U => by rfl) ?_; simp only [Act.put, List.setIfInBounds_toArray, List.set_cons_zero, List.set_cons_succ])
      | (refine' wpRel_fix (by rfl) (fun U => by rfl) (fun m U w' hI hG => ?_) ?_
         rotate_left
         focus (have hf := HF.out w' hI; unfold relAt; go_simp; first | exact ⟨rfl, Below.refl _ _⟩ | exact Below.refl _ _ | exact ⟨trivial, Below.refl _ _⟩)
         simp only [Act.put, List.setIfInBounds_toArray, List.set_cons_zero, List.set_cons_succ])
    refine wpRel_rel (LogR (freeZ n L)) rfl (LogR.stable _) (by rfl) (fun U => by rfl) (fun m U w' hI hG => ?_) ?_
    · have hf := HF.out w' hI
      unfold relAt
      go_simp
      clear hf
      exact Calls.mono (HSP.out w' (LLog.belowAll AL.out hI)) fun e w'' ⟨y, he, hy, hA, _, hb⟩ => ⟨⟨_, he, y, rfl, hy, hA⟩, hb⟩
    simp only [Act.put, List.setIfInBounds_toArray, List.set_cons_zero, List.set_cons_succ]
    refine' wpRel_fix (by rfl) (fun U => by rfl) (fun m U w' hI hG => ?_) ?_
    rotate_left
    · obtain ⟨y, hv, hy, hA⟩ := hG _ (List.Mem.head _) (by rfl)
      simp only at hv
      have hf := HF.out w' hI
      unfold relAt
      simp only [hv]
      go_simp
      clear hf
      exact Calls.mono (lvLog_yes ⟨xf, ⟨xa, xc, xs⟩⟩ y w' (LLog.belowAll AX.out hI) hA (EX.out.trans hy.symm)) fun e w'' h => ⟨h.1, h.2⟩
    simp only [Act.put, List.setIfInBounds_toArray, List.set_cons_zero, List.set_cons_succ]
    first
      | (refine wpRel_pass (by rfl) (fun U => by rfl) ?_; simp only [Act.put, List.setIfInBounds_toArray, List.set_cons_zero, List.set_cons_succ])
      | (refine' wpRel_fix (by rfl) (fun U => by rfl) (fun m U w' hI hG => ?_) ?_
         rotate_left
         focus (have hf := HF.out w' hI; unfold relAt; go_simp; first | exact ⟨rfl, Below.refl _ _⟩ | exact Below.refl _ _ | exact ⟨trivial, Below.refl _ _⟩)
         simp only [Act.put, List.setIfInBounds_toArray, List.set_cons_zero, List.set_cons_succ])
    first
      | (refine wpRel_pass (by rfl) (fun U => by rfl) ?_; simp only [Act.put, List.setIfInBounds_toArray, List.set_cons_zero, List.set_cons_succ])
      | (refine' wpRel_fix (by rfl) (fun U => by rfl) (fun m U w' hI hG => ?_) ?_
         rotate_left
         focus (have hf := HF.out w' hI; unfold relAt; go_simp; first | exact ⟨rfl, Below.refl _ _⟩ | exact Below.refl _ _ | exact ⟨trivial, Below.refl _ _⟩)
         simp only [Act.put, List.setIfInBounds_toArray, List.set_cons_zero, List.set_cons_succ])
    first
      | (refine wpRel_pass (by rfl) (fun U => by rfl) ?_; simp only [Act.put, List.setIfInBounds_toArray, List.set_cons_zero, List.set_cons_succ])
      | (refine' wpRel_fix (by rfl) (fun U => by rfl) (fun m U w' hI hG => ?_) ?_
         rotate_left
         focus (have hf := HF.out w' hI; unfold relAt; go_simp; first | exact ⟨rfl, Below.refl _ _⟩ | exact Below.refl _ _ | exact ⟨trivial, Below.refl _ _⟩)
         simp only [Act.put, List.setIfInBounds_toArray, List.set_cons_zero, List.set_cons_succ])
    refine' wpRel_fix (by rfl) (fun U => by rfl) (fun m U w' hI hG => ?_) ?_
    rotate_left
    · have hf := HF.out w' hI
      unfold relAt
      go_simp
      clear hf
      exact Calls.mono (HOK.out w' (LLog.belowAll AL.out hI)) fun e w'' h => ⟨h.1, h.2⟩
    simp only [Act.put, List.setIfInBounds_toArray, List.set_cons_zero, List.set_cons_succ]
    first
      | (refine wpRel_pass (by rfl) (fun U => by rfl) ?_; simp only [Act.put, List.setIfInBounds_toArray, List.set_cons_zero, List.set_cons_succ])
      | (refine' wpRel_fix (by rfl) (fun U => by rfl) (fun m U w' hI hG => ?_) ?_
         rotate_left
         focus (have hf := HF.out w' hI; unfold relAt; go_simp; first | exact ⟨rfl, Below.refl _ _⟩ | exact Below.refl _ _ | exact ⟨trivial, Below.refl _ _⟩)
         simp only [Act.put, List.setIfInBounds_toArray, List.set_cons_zero, List.set_cons_succ])
    first
      | (refine wpRel_pass (by rfl) (fun U => by rfl) ?_; simp only [Act.put, List.setIfInBounds_toArray, List.set_cons_zero, List.set_cons_succ])
      | (refine' wpRel_fix (by rfl) (fun U => by rfl) (fun m U w' hI hG => ?_) ?_
         rotate_left
         focus (have hf := HF.out w' hI; unfold relAt; go_simp; first | exact ⟨rfl, Below.refl _ _⟩ | exact Below.refl _ _ | exact ⟨trivial, Below.refl _ _⟩)
         simp only [Act.put, List.setIfInBounds_toArray, List.set_cons_zero, List.set_cons_succ])
    first
      | (refine wpRel_pass (by rfl) (fun U => by rfl) ?_; simp only [Act.put, List.setIfInBounds_toArray, List.set_cons_zero, List.set_cons_succ])
      | (refine' wpRel_fix (by rfl) (fun U => by rfl) (fun m U w' hI hG => ?_) ?_
         rotate_left
         focus (have hf := HF.out w' hI; unfold relAt; go_simp; first | exact ⟨rfl, Below.refl _ _⟩ | exact Below.refl _ _ | exact ⟨trivial, Below.refl _ _⟩)
         simp only [Act.put, List.setIfInBounds_toArray, List.set_cons_zero, List.set_cons_succ])
    first
      | (refine wpRel_pass (by rfl) (fun U => by rfl) ?_; simp only [Act.put, List.setIfInBounds_toArray, List.set_cons_zero, List.set_cons_succ])
      | (refine' wpRel_fix (by rfl) (fun U => by rfl) (fun m U w' hI hG => ?_) ?_
         rotate_left
         focus (have hf := HF.out w' hI; unfold relAt; go_simp; first | exact ⟨rfl, Below.refl _ _⟩ | exact Below.refl _ _ | exact ⟨trivial, Below.refl _ _⟩)
         simp only [Act.put, List.setIfInBounds_toArray, List.set_cons_zero, List.set_cons_succ])
    first
      | (refine wpRel_pass (by rfl) (fun U => by rfl) ?_; simp only [Act.put, List.setIfInBounds_toArray, List.set_cons_zero, List.set_cons_succ])
      | (refine' wpRel_fix (by rfl) (fun U => by rfl) (fun m U w' hI hG => ?_) ?_
         rotate_left
         focus (have hf := HF.out w' hI; unfold relAt; go_simp; first | exact ⟨rfl, Below.refl _ _⟩ | exact Below.refl _ _ | exact ⟨trivial, Below.refl _ _⟩)
         simp only [Act.put, List.setIfInBounds_toArray, List.set_cons_zero, List.set_cons_succ])
    first
      | (refine wpRel_pass (by rfl) (fun U => by rfl) ?_; simp only [Act.put, List.setIfInBounds_toArray, List.set_cons_zero, List.set_cons_succ])
      | (refine' wpRel_fix (by rfl) (fun U => by rfl) (fun m U w' hI hG => ?_) ?_
         rotate_left
         focus (have hf := HF.out w' hI; unfold relAt; go_simp; first | exact ⟨rfl, Below.refl _ _⟩ | exact Below.refl _ _ | exact ⟨trivial, Below.refl _ _⟩)
         simp only [Act.put, List.setIfInBounds_toArray, List.set_cons_zero, List.set_cons_succ])
    intro U w5 hI hG
    replace hI : Below w4.heap.size w4 w5 := hI
    replace B := Lib.hid (nextB B.out (hI))
    replace AL := Lib.hid (LLog.belowAll AL.out (hI))
    replace BL := Lib.hid (BL.out.keep (hI))
    replace AX := Lib.hid (LLog.belowAll AX.out (hI))
    replace BX := Lib.hid (BX.out.keep (hI))
    clear hG HF hI
    go_wp2_with fail
    have HF : Hid (∀ w', Below w5.heap.size w5 w' → w'.cell? ⟨p, 0, none⟩ = some (.int .i64 f) ∧ w'.cell? ⟨p, 1, none⟩ = some (.slice a s.length c) ∧ w'.cell? ⟨q, 0, none⟩ = some (.int .i64 xf) ∧ w'.cell? ⟨q, 1, none⟩ = some (.slice xa xs.length xc)) :=
      Lib.hid (fun w' h => ⟨(BL.out.keep h).2 0 _ rfl, (BL.out.keep h).2 1 _ rfl, (BX.out.keep h).2 0 _ rfl, (BX.out.keep h).2 1 _ rfl⟩)
    refine wp_region_rel 6 (by kernel_rfl) (by kernel_rfl) (by rfl) ?_
    simp only [List.take_succ_cons, List.take_zero, List.drop_succ_cons, List.drop_zero]
    first
      | (refine wpRel_pass (by rfl) (fun U => by rfl) ?_; simp only [Act.put, List.setIfInBounds_toArray, List.set_cons_zero, List.set_cons_succ])
      | (refine' wpRel_fix (by rfl) (fun U => by rfl) (fun m U w' hI hG => ?_) ?_
         rotate_left
         focus (have hf := HF.out w' hI; unfold relAt; go_simp; first | exact ⟨rfl, Below.refl _ _⟩ | exact Below.refl _ _ | exact ⟨trivial, Below.refl _ _⟩)
         simp only [Act.put, List.setIfInBounds_toArray, List.set_cons_zero, List.set_cons_succ])
    first
      | (refine wpRel_pass (by rfl) (fun U => by rfl) ?_; simp only [Act.put, List.setIfInBounds_toArray, List.set_cons_zero, List.set_cons_succ])
      | (refine' wpRel_fix (by rfl) (fun U => by rfl) (fun m U w' hI hG => ?_) ?_
         rotate_left
         focus (have hf := HF.out w' hI; unfold relAt; go_simp; first | exact ⟨rfl, Below.refl _ _⟩ | exact Below.refl _ _ | exact ⟨trivial, Below.refl _ _⟩)
         simp only [Act.put, List.setIfInBounds_toArray, List.set_cons_zero, List.set_cons_succ])
    first
      | (refine wpRel_pass (by rfl) (fun U => by rfl) ?_; simp only [Act.put, List.setIfInBounds_toArray, List.set_cons_zero, List.set_cons_succ])
      | (refine' wpRel_fix (by rfl) (fun U => by rfl) (fun m U w' hI hG => ?_) ?_
         rotate_left
         focus (have hf := HF.out w' hI; unfold relAt; go_simp; first | exact ⟨rfl, Below.refl _ _⟩ | exact Below.refl _ _ | exact ⟨trivial, Below.refl _ _⟩)
         simp only [Act.put, List.setIfInBounds_toArray, List.set_cons_zero, List.set_cons_succ])
    refine wpRel_rel (LogR (freeZ n L)) rfl (LogR.stable _) (by rfl) (fun U => by rfl) (fun m U w' hI hG => ?_) ?_
    · have hf := HF.out w' hI
      unfold relAt
      go_simp
      clear hf
      exact Calls.mono (HSP.out w' (LLog.belowAll AL.out hI)) fun e w'' ⟨y, he, hy, hA, _, hb⟩ => ⟨⟨_, he, y, rfl, hy, hA⟩, hb⟩
    simp only [Act.put, List.setIfInBounds_toArray, List.set_cons_zero, List.set_cons_succ]
    refine' wpRel_fix (by rfl) (fun U => by rfl) (fun m U w' hI hG => ?_) ?_
    rotate_left
    · obtain ⟨y, hv, hy, hA⟩ := hG _ (List.Mem.head _) (by rfl)
      simp only at hv
      have hf := HF.out w' hI
      unfold relAt
      simp only [hv]
      go_simp
      clear hf
      exact Calls.mono (lvLog_yes ⟨xf, ⟨xa, xc, xs⟩⟩ y w' (LLog.belowAll AX.out hI) hA (EX.out.trans hy.symm)) fun e w'' h => ⟨h.1, h.2⟩
    simp only [Act.put, List.setIfInBounds_toArray, List.set_cons_zero, List.set_cons_succ]
    first
      | (refine wpRel_pass (by rfl) (fun U => by rfl) ?_; simp only [Act.put, List.setIfInBounds_toArray, List.set_cons_zero, List.set_cons_succ])
      | (refine' wpRel_fix (by rfl) (fun U => by rfl) (fun m U w' hI hG => ?_) ?_
         rotate_left
         focus (have hf := HF.out w' hI; unfold relAt; go_simp; first | exact ⟨rfl, Below.refl _ _⟩ | exact Below.refl _ _ | exact ⟨trivial, Below.refl _ _⟩)
         simp only [Act.put, List.setIfInBounds_toArray, List.set_cons_zero, List.set_cons_succ])
    intro U w6 hI hG
    replace hI : Below w5.heap.size w5 w6 := hI
    replace B := Lib.hid (nextB B.out (hI))
    replace AL := Lib.hid (LLog.belowAll AL.out (hI))
    replace BL := Lib.hid (BL.out.keep (hI))
    replace AX := Lib.hid (LLog.belowAll AX.out (hI))
    replace BX := Lib.hid (BX.out.keep (hI))
    go_wp2_with fail
    go_ret
    exact ⟨rfl, B.out⟩
  refine wp_region_rel 15 (by kernel_rfl) (by kernel_rfl) (by rfl) ?_
  simp only [List.take_succ_cons, List.take_zero, List.drop_succ_cons, List.drop_zero]
  first
    | (refine wpRel_pass (by rfl) (fun U => by rfl) ?_; simp only [Act.put, List.setIfInBounds_toArray, List.set_cons_zero, List.set_cons_succ])
    | (refine' wpRel_fix (by rfl) (fun U => by rfl) (fun m U w' hI hG => ?_) ?_
       rotate_left
       focus (have hf := HF.out w' hI; unfold relAt; go_simp; first | exact ⟨rfl, Below.refl _ _⟩ | exact Below.refl _ _ | exact ⟨trivial, Below.refl _ _⟩)
       simp only [Act.put, List.setIfInBounds_toArray, List.set_cons_zero, List.set_cons_succ])
  first
    | (refine wpRel_pass (by rfl) (fun U => by rfl) ?_; simp only [Act.put, List.setIfInBounds_toArray, List.set_cons_zero, List.set_cons_succ])
    | (refine' wpRel_fix (by rfl) (fun U => by rfl) (fun m U w' hI hG => ?_) ?_
       rotate_left
       focus (have hf := HF.out w' hI; unfold relAt; go_simp; first | exact ⟨rfl, Below.refl _ _⟩ | exact Below.refl _ _ | exact ⟨trivial, Below.refl _ _⟩)
       simp only [Act.put, List.setIfInBounds_toArray, List.set_cons_zero, List.set_cons_succ])
  first
    | (refine wpRel_pass (by rfl) (fun U => by rfl) ?_; simp only [Act.put, List.setIfInBounds_toArray, List.set_cons_zero, List.set_cons_succ])
    | (refine' wpRel_fix (by rfl) (fun U => by rfl) (fun m U w' hI hG => ?_) ?_
       rotate_left
       focus (have hf := HF.out w' hI; unfold relAt; go_simp; first | exact ⟨rfl, Below.refl _ _⟩ | exact Below.refl _ _ | exact ⟨trivial, Below.refl _ _⟩)
       simp only [Act.put, List.setIfInBounds_toArray, List.set_cons_zero, List.set_cons_succ])
  refine wpRel_rel (LogR (freeZ n L)) rfl (LogR.stable _) (by rfl) (fun U => by rfl) (fun m U w' hI hG => ?_) ?_
  · have hf := HF.out w' hI
    unfold relAt
    go_simp
    clear hf
    exact Calls.mono (HSP.out w' (LLog.belowAll AL.out hI)) fun e w'' ⟨y, he, hy, hA, _, hb⟩ => ⟨⟨_, he, y, rfl, hy, hA⟩, hb⟩
  simp only [Act.put, List.setIfInBounds_toArray, List.set_cons_zero, List.set_cons_succ]
  refine' wpRel_fix (by rfl) (fun U => by rfl) (fun m U w' hI hG => ?_) ?_
  rotate_left
  · obtain ⟨y, hv, hy, hA⟩ := hG _ (List.Mem.head _) (by rfl)
    simp only at hv
    have hf := HF.out w' hI
    unfold relAt
    simp only [hv]
    go_simp
    clear hf
    exact Calls.mono (lvLog_yes ⟨xf, ⟨xa, xc, xs⟩⟩ y w' (LLog.belowAll AX.out hI) hA (EX.out.trans hy.symm)) fun e w'' h => ⟨h.1, h.2⟩
  simp only [Act.put, List.setIfInBounds_toArray, List.set_cons_zero, List.set_cons_succ]
  first
    | (refine wpRel_pass (by rfl) (fun U => by rfl) ?_; simp only [Act.put, List.setIfInBounds_toArray, List.set_cons_zero, List.set_cons_succ])
    | (refine' wpRel_fix (by rfl) (fun U => by rfl) (fun m U w' hI hG => ?_) ?_
       rotate_left
       focus (have hf := HF.out w' hI; unfold relAt; go_simp; first | exact ⟨rfl, Below.refl _ _⟩ | exact Below.refl _ _ | exact ⟨trivial, Below.refl _ _⟩)
       simp only [Act.put, List.setIfInBounds_toArray, List.set_cons_zero, List.set_cons_succ])
  first
    | (refine wpRel_pass (by rfl) (fun U => by rfl) ?_; simp only [Act.put, List.setIfInBounds_toArray, List.set_cons_zero, List.set_cons_succ])
    | (refine' wpRel_fix (by rfl) (fun U => by rfl) (fun m U w' hI hG => ?_) ?_
       rotate_left
       focus (have hf := HF.out w' hI; unfold relAt; go_simp; first | exact ⟨rfl, Below.refl _ _⟩ | exact Below.refl _ _ | exact ⟨trivial, Below.refl _ _⟩)
       simp only [Act.put, List.setIfInBounds_toArray, List.set_cons_zero, List.set_cons_succ])
  first
    | (refine wpRel_pass (by rfl) (fun U => by rfl) ?_; simp only [Act.put, List.setIfInBounds_toArray, List.set_cons_zero, List.set_cons_succ])
    | (refine' wpRel_fix (by rfl) (fun U => by rfl) (fun m U w' hI hG => ?_) ?_
       rotate_left
       focus (have hf := HF.out w' hI; unfold relAt; go_simp; first | exact ⟨rfl, Below.refl _ _⟩ | exact Below.refl _ _ | exact ⟨trivial, Below.refl _ _⟩)
       simp only [Act.put, List.setIfInBounds_toArray, List.set_cons_zero, List.set_cons_succ])
  refine' wpRel_fix (by rfl) (fun U => by rfl) (fun m U w' hI hG => ?_) ?_
  rotate_left
  · have hf := HF.out w' hI
    unfold relAt
    go_simp
    clear hf
    exact Calls.mono (HOK.out w' (LLog.belowAll AL.out hI)) fun e w'' h => ⟨h.1, h.2⟩
  simp only [Act.put, List.setIfInBounds_toArray, List.set_cons_zero, List.set_cons_succ]
  first
    | (refine wpRel_pass (by rfl) (fun U => by rfl) ?_; simp only [Act.put, List.setIfInBounds_toArray, List.set_cons_zero, List.set_cons_succ])
    | (refine' wpRel_fix (by rfl) (fun U => by rfl) (fun m U w' hI hG => ?_) ?_
       rotate_left
       focus (have hf := HF.out w' hI; unfold relAt; go_simp; first | exact ⟨rfl, Below.refl _ _⟩ | exact Below.refl _ _ | exact ⟨trivial, Below.refl _ _⟩)
       simp only [Act.put, List.setIfInBounds_toArray, List.set_cons_zero, List.set_cons_succ])
  first
    | (refine wpRel_pass (by rfl) (fun U => by rfl) ?_; simp only [Act.put, List.setIfInBounds_toArray, List.set_cons_zero, List.set_cons_succ])
    | (refine' wpRel_fix (by rfl) (fun U => by rfl) (fun m U w' hI hG => ?_) ?_
       rotate_left
       focus (have hf := HF.out w' hI; unfold relAt; go_simp; first | exact ⟨rfl, Below.refl _ _⟩ | exact Below.refl _ _ | exact ⟨trivial, Below.refl _ _⟩)
       simp only [Act.put, List.setIfInBounds_toArray, List.set_cons_zero, List.set_cons_succ])
  first
    | (refine wpRel_pass (by rfl) (fun U => by rfl) ?_; simp only [Act.put, List.setIfInBounds_toArray, List.set_cons_zero, List.set_cons_succ])
    | (refine' wpRel_fix (by rfl) (fun U => by rfl) (fun m U w' hI hG => ?_) ?_
       rotate_left
       focus (have hf := HF.out w' hI; unfold relAt; go_simp; first | exact ⟨rfl, Below.refl _ _⟩ | exact Below.refl _ _ | exact ⟨trivial, Below.refl _ _⟩)
       simp only [Act.put, List.setIfInBounds_toArray, List.set_cons_zero, List.set_cons_succ])
  first
    | (refine wpRel_pass (by rfl) (fun U => by rfl) ?_; simp only [Act.put, List.setIfInBounds_toArray, List.set_cons_zero, List.set_cons_succ])
    | (refine' wpRel_fix (by rfl) (fun U => by rfl) (fun m U w' hI hG => ?_) ?_
       rotate_left
       focus (have hf := HF.out w' hI; unfold relAt; go_simp; first | exact ⟨rfl, Below.refl _ _⟩ | exact Below.refl _ _ | exact ⟨trivial, Below.refl _ _⟩)
       simp only [Act.put, List.setIfInBounds_toArray, List.set_cons_zero, List.set_cons_succ])
  first
    | (refine wpRel_pass (by rfl) (fun U => by rfl) ?_; simp only [Act.put, List.setIfInBounds_toArray, List.set_cons_zero, List.set_cons_succ])
    | (refine' wpRel_fix (by rfl) (fun U => by rfl) (fun m U w' hI hG => ?_) ?_
       rotate_left
       focus (have hf := HF.out w' hI; unfold relAt; go_simp; first | exact ⟨rfl, Below.refl _ _⟩ | exact Below.refl _ _ | exact ⟨trivial, Below.refl _ _⟩)
       simp only [Act.put, List.setIfInBounds_toArray, List.set_cons_zero, List.set_cons_succ])
  first
    | (refine wpRel_pass (by rfl) (fun U => by rfl) ?_; simp only [Act.put, List.setIfInBounds_toArray, List.set_cons_zero, List.set_cons_succ])
    | (refine' wpRel_fix (by rfl) (fun U => by rfl) (fun m U w' hI hG => ?_) ?_
       rotate_left
       focus (have hf := HF.out w' hI; unfold relAt; go_simp; first | exact ⟨rfl, Below.refl _ _⟩ | exact Below.refl _ _ | exact ⟨trivial, Below.refl _ _⟩)
       simp only [Act.put, List.setIfInBounds_toArray, List.set_cons_zero, List.set_cons_succ])
  intro U w5 hI hG
  replace hI : Below w4.heap.size w4 w5 := hI
  replace B := Lib.hid (nextB B.out (hI))
  replace AL := Lib.hid (LLog.belowAll AL.out (hI))
  replace BL := Lib.hid (BL.out.keep (hI))
  replace AX := Lib.hid (LLog.belowAll AX.out (hI))
  replace BX := Lib.hid (BX.out.keep (hI))
  clear hG HF hI
  have hn : 0 ≤ n := by omega
  have hL4 : L.from_ ≤ 4000 := by rw [← HL.out]; simp only [LLog.er]; omega
  obtain ⟨k, k1, k2, k3, k4, k5, k6, k7⟩ := free_law HLB.out hL4 hn
  have key := EX.out
  have keyL := HL.out
  rw [← key] at k1 k3 k5 k6 k7
  rw [← keyL] at k1 k2 k3
  simp only [LLog.er, List.length_map] at k1 k2 k3 k5 k6
  obtain ⟨K, hK⟩ : ∃ K : Nat, K = 5 * k := ⟨_, rfl⟩
  have hK' : K = 0 ∨ xf ≤ n := by omega
  rw [← hK] at k2 k3
  have k1' : xf - f = (K : Int) := by omega
  have hr5 : (K : Int) % 5 = 0 := by omega
  have K3 : Hid (xs.map LRec.er = (s.drop K).map LRec.er) := Lib.hid (by rw [k3, List.map_drop])
  have hlc := AL.out.lenCap
  have hlm := AL.out.capMax
  simp only [maxLen] at hlc hlm
  have hKs : (K : Int) ≤ (s.length : Int) := by omega
  have hsub : IntKind.i64.wrap (xf - f) = (K : Int) := by rw [k1']; exact IntWalk.i64_in _ (by omega)
  have hKd : decide ((0 : Int) ≤ (K : Int)) = true := decide_eq_true (by omega)
  have hrem1 : (K : Int).tmod 5 = 0 := by rw [Int.tmod_eq_emod_of_nonneg (by omega)]; exact hr5
  have hwz : IntKind.i64.wrap 0 = 0 := IntWalk.i64_in _ (by omega)
  have hadd : IntKind.i64.wrap (xf + 5) = xf + 5 := IntWalk.i64_in _ (by omega)
  have HIE : Hid (∀ W, LLog.At W ⟨f, ⟨a, c, s⟩⟩ → Calls Tryd.prog 14 #[.agg #[.int .i64 f, .slice a s.length c]] W fun e w' => e = .returned (.int .i64 (endZ L)) ∧ Below W.heap.size W w') := Lib.hid (fun W hW => by
    have h := iLogEnd_any ⟨f, ⟨a, c, s⟩⟩ W hW
    rw [HL.out] at h
    exact h)
  have HIX : Hid (∀ W, LLog.At W ⟨xf, ⟨xa, xc, xs⟩⟩ → Calls Tryd.prog 14 #[.agg #[.int .i64 xf, .slice xa xs.length xc]] W fun e w' => e = .returned (.int .i64 (endZ L)) ∧ Below W.heap.size W w') := Lib.hid (fun W hW => by
    have h := iLogEnd_any ⟨xf, ⟨xa, xc, xs⟩⟩ W hW
    rw [EX.out, k4] at h
    exact h)
  have HOX : Hid (∀ W, LLog.At W ⟨xf, ⟨xa, xc, xs⟩⟩ → Calls Tryd.prog 11 #[.agg #[.int .i64 xf, .slice xa xs.length xc]] W fun e w' => e = .returned (.bool true) ∧ Below W.heap.size W w') := Lib.hid (fun W hW => by
    have h := iLogOk_any ⟨xf, ⟨xa, xc, xs⟩⟩ W hW
    rw [k7] at h
    exact h)
  have HK6 := Lib.hid k6
  have HK' := Lib.hid hK'
  clear key keyL k1 k2 k3 k4 k5 k6 k7 hK k1' hK' hL4 hn
  generalize endZ L = el at *
  have hc0 := BX.out.2 0 _ rfl
  have hl0 := BL.out.2 0 _ rfl
  go_wp2_with fail
  clear hc0 hl0
  by_cases hK0 : K = 0
  · have hk0 : ((K : Int) == 0) = true := by simp [hK0]
    clear hK0
    by_cases h5 : (xs.length : Int) < 5
    case pos =>
      have HF : Hid (∀ w', Below w5.heap.size w5 w' → w'.cell? ⟨p, 0, none⟩ = some (.int .i64 f) ∧ w'.cell? ⟨p, 1, none⟩ = some (.slice a s.length c) ∧ w'.cell? ⟨q, 0, none⟩ = some (.int .i64 xf) ∧ w'.cell? ⟨q, 1, none⟩ = some (.slice xa xs.length xc)) :=
        Lib.hid (fun w' h => ⟨(BL.out.keep h).2 0 _ rfl, (BL.out.keep h).2 1 _ rfl, (BX.out.keep h).2 0 _ rfl, (BX.out.keep h).2 1 _ rfl⟩)
      refine wp_region_rel 58 (by kernel_rfl) (by kernel_rfl) (by rfl) ?_
      simp only [List.take_succ_cons, List.take_zero, List.drop_succ_cons, List.drop_zero]
      first
        | (refine wpRel_pass (by rfl) (fun U => by rfl) ?_; simp only [Act.put, List.setIfInBounds_toArray, List.set_cons_zero, List.set_cons_succ])
        | (refine' wpRel_fix (by rfl) (fun U => by rfl) (fun m U w' hI hG => ?_) ?_
           rotate_left
           focus (have hf := HF.out w' hI; unfold relAt; go_simp; first | exact ⟨rfl, Below.refl _ _⟩ | exact Below.refl _ _ | exact ⟨trivial, Below.refl _ _⟩)
           simp only [Act.put, List.setIfInBounds_toArray, List.set_cons_zero, List.set_cons_succ])
      first
        | (refine wpRel_pass (by rfl) (fun U => by rfl) ?_; simp only [Act.put, List.setIfInBounds_toArray, List.set_cons_zero, List.set_cons_succ])
        | (refine' wpRel_fix (by rfl) (fun U => by rfl) (fun m U w' hI hG => ?_) ?_
           rotate_left
           focus (have hf := HF.out w' hI; unfold relAt; go_simp; first | exact ⟨rfl, Below.refl _ _⟩ | exact Below.refl _ _ | exact ⟨trivial, Below.refl _ _⟩)
           simp only [Act.put, List.setIfInBounds_toArray, List.set_cons_zero, List.set_cons_succ])
      first
        | (refine wpRel_pass (by rfl) (fun U => by rfl) ?_; simp only [Act.put, List.setIfInBounds_toArray, List.set_cons_zero, List.set_cons_succ])
        | (refine' wpRel_fix (by rfl) (fun U => by rfl) (fun m U w' hI hG => ?_) ?_
           rotate_left
           focus (have hf := HF.out w' hI; unfold relAt; go_simp; first | exact ⟨rfl, Below.refl _ _⟩ | exact Below.refl _ _ | exact ⟨trivial, Below.refl _ _⟩)
           simp only [Act.put, List.setIfInBounds_toArray, List.set_cons_zero, List.set_cons_succ])
      first
        | (refine wpRel_pass (by rfl) (fun U => by rfl) ?_; simp only [Act.put, List.setIfInBounds_toArray, List.set_cons_zero, List.set_cons_succ])
        | (refine' wpRel_fix (by rfl) (fun U => by rfl) (fun m U w' hI hG => ?_) ?_
           rotate_left
           focus (have hf := HF.out w' hI; unfold relAt; go_simp; first | exact ⟨rfl, Below.refl _ _⟩ | exact Below.refl _ _ | exact ⟨trivial, Below.refl _ _⟩)
           simp only [Act.put, List.setIfInBounds_toArray, List.set_cons_zero, List.set_cons_succ])
      first
        | (refine wpRel_pass (by rfl) (fun U => by rfl) ?_; simp only [Act.put, List.setIfInBounds_toArray, List.set_cons_zero, List.set_cons_succ])
        | (refine' wpRel_fix (by rfl) (fun U => by rfl) (fun m U w' hI hG => ?_) ?_
           rotate_left
           focus (have hf := HF.out w' hI; unfold relAt; go_simp; first | exact ⟨rfl, Below.refl _ _⟩ | exact Below.refl _ _ | exact ⟨trivial, Below.refl _ _⟩)
           simp only [Act.put, List.setIfInBounds_toArray, List.set_cons_zero, List.set_cons_succ])
      first
        | (refine wpRel_pass (by rfl) (fun U => by rfl) ?_; simp only [Act.put, List.setIfInBounds_toArray, List.set_cons_zero, List.set_cons_succ])
        | (refine' wpRel_fix (by rfl) (fun U => by rfl) (fun m U w' hI hG => ?_) ?_
           rotate_left
           focus (have hf := HF.out w' hI; unfold relAt; go_simp; first | exact ⟨rfl, Below.refl _ _⟩ | exact Below.refl _ _ | exact ⟨trivial, Below.refl _ _⟩)
           simp only [Act.put, List.setIfInBounds_toArray, List.set_cons_zero, List.set_cons_succ])
      first
        | (refine wpRel_pass (by rfl) (fun U => by rfl) ?_; simp only [Act.put, List.setIfInBounds_toArray, List.set_cons_zero, List.set_cons_succ])
        | (refine' wpRel_fix (by rfl) (fun U => by rfl) (fun m U w' hI hG => ?_) ?_
           rotate_left
           focus (have hf := HF.out w' hI; unfold relAt; go_simp; first | exact ⟨rfl, Below.refl _ _⟩ | exact Below.refl _ _ | exact ⟨trivial, Below.refl _ _⟩)
           simp only [Act.put, List.setIfInBounds_toArray, List.set_cons_zero, List.set_cons_succ])
      first
        | (refine wpRel_pass (by rfl) (fun U => by rfl) ?_; simp only [Act.put, List.setIfInBounds_toArray, List.set_cons_zero, List.set_cons_succ])
        | (refine' wpRel_fix (by rfl) (fun U => by rfl) (fun m U w' hI hG => ?_) ?_
           rotate_left
           focus (have hf := HF.out w' hI; unfold relAt; go_simp; first | exact ⟨rfl, Below.refl _ _⟩ | exact Below.refl _ _ | exact ⟨trivial, Below.refl _ _⟩)
           simp only [Act.put, List.setIfInBounds_toArray, List.set_cons_zero, List.set_cons_succ])
      first
        | (refine wpRel_pass (by rfl) (fun U => by rfl) ?_; simp only [Act.put, List.setIfInBounds_toArray, List.set_cons_zero, List.set_cons_succ])
        | (refine' wpRel_fix (by rfl) (fun U => by rfl) (fun m U w' hI hG => ?_) ?_
           rotate_left
           focus (have hf := HF.out w' hI; unfold relAt; go_simp; first | exact ⟨rfl, Below.refl _ _⟩ | exact Below.refl _ _ | exact ⟨trivial, Below.refl _ _⟩)
           simp only [Act.put, List.setIfInBounds_toArray, List.set_cons_zero, List.set_cons_succ])
      first
        | (refine wpRel_pass (by rfl) (fun U => by rfl) ?_; simp only [Act.put, List.setIfInBounds_toArray, List.set_cons_zero, List.set_cons_succ])
        | (refine' wpRel_fix (by rfl) (fun U => by rfl) (fun m U w' hI hG => ?_) ?_
           rotate_left
           focus (have hf := HF.out w' hI; unfold relAt; go_simp; first | exact ⟨rfl, Below.refl _ _⟩ | exact Below.refl _ _ | exact ⟨trivial, Below.refl _ _⟩)
           simp only [Act.put, List.setIfInBounds_toArray, List.set_cons_zero, List.set_cons_succ])
      first
        | (refine wpRel_pass (by rfl) (fun U => by rfl) ?_; simp only [Act.put, List.setIfInBounds_toArray, List.set_cons_zero, List.set_cons_succ])
        | (refine' wpRel_fix (by rfl) (fun U => by rfl) (fun m U w' hI hG => ?_) ?_
           rotate_left
           focus (have hf := HF.out w' hI; unfold relAt; go_simp; first | exact ⟨rfl, Below.refl _ _⟩ | exact Below.refl _ _ | exact ⟨trivial, Below.refl _ _⟩)
           simp only [Act.put, List.setIfInBounds_toArray, List.set_cons_zero, List.set_cons_succ])
      first
        | (refine wpRel_pass (by rfl) (fun U => by rfl) ?_; simp only [Act.put, List.setIfInBounds_toArray, List.set_cons_zero, List.set_cons_succ])
        | (refine' wpRel_fix (by rfl) (fun U => by rfl) (fun m U w' hI hG => ?_) ?_
           rotate_left
           focus (have hf := HF.out w' hI; unfold relAt; go_simp; first | exact ⟨rfl, Below.refl _ _⟩ | exact Below.refl _ _ | exact ⟨trivial, Below.refl _ _⟩)
           simp only [Act.put, List.setIfInBounds_toArray, List.set_cons_zero, List.set_cons_succ])
      first
        | (refine wpRel_pass (by rfl) (fun U => by rfl) ?_; simp only [Act.put, List.setIfInBounds_toArray, List.set_cons_zero, List.set_cons_succ])
        | (refine' wpRel_fix (by rfl) (fun U => by rfl) (fun m U w' hI hG => ?_) ?_
           rotate_left
           focus (have hf := HF.out w' hI; unfold relAt; go_simp; first | exact ⟨rfl, Below.refl _ _⟩ | exact Below.refl _ _ | exact ⟨trivial, Below.refl _ _⟩)
           simp only [Act.put, List.setIfInBounds_toArray, List.set_cons_zero, List.set_cons_succ])
      first
        | (refine wpRel_pass (by rfl) (fun U => by rfl) ?_; simp only [Act.put, List.setIfInBounds_toArray, List.set_cons_zero, List.set_cons_succ])
        | (refine' wpRel_fix (by rfl) (fun U => by rfl) (fun m U w' hI hG => ?_) ?_
           rotate_left
           focus (have hf := HF.out w' hI; unfold relAt; go_simp; first | exact ⟨rfl, Below.refl _ _⟩ | exact Below.refl _ _ | exact ⟨trivial, Below.refl _ _⟩)
           simp only [Act.put, List.setIfInBounds_toArray, List.set_cons_zero, List.set_cons_succ])
      first
        | (refine wpRel_pass (by rfl) (fun U => by rfl) ?_; simp only [Act.put, List.setIfInBounds_toArray, List.set_cons_zero, List.set_cons_succ])
        | (refine' wpRel_fix (by rfl) (fun U => by rfl) (fun m U w' hI hG => ?_) ?_
           rotate_left
           focus (have hf := HF.out w' hI; unfold relAt; go_simp; first | exact ⟨rfl, Below.refl _ _⟩ | exact Below.refl _ _ | exact ⟨trivial, Below.refl _ _⟩)
           simp only [Act.put, List.setIfInBounds_toArray, List.set_cons_zero, List.set_cons_succ])
      first
        | (refine wpRel_pass (by rfl) (fun U => by rfl) ?_; simp only [Act.put, List.setIfInBounds_toArray, List.set_cons_zero, List.set_cons_succ])
        | (refine' wpRel_fix (by rfl) (fun U => by rfl) (fun m U w' hI hG => ?_) ?_
           rotate_left
           focus (have hf := HF.out w' hI; unfold relAt; go_simp; first | exact ⟨rfl, Below.refl _ _⟩ | exact Below.refl _ _ | exact ⟨trivial, Below.refl _ _⟩)
           simp only [Act.put, List.setIfInBounds_toArray, List.set_cons_zero, List.set_cons_succ])
      first
        | (refine wpRel_pass (by rfl) (fun U => by rfl) ?_; simp only [Act.put, List.setIfInBounds_toArray, List.set_cons_zero, List.set_cons_succ])
        | (refine' wpRel_fix (by rfl) (fun U => by rfl) (fun m U w' hI hG => ?_) ?_
           rotate_left
           focus (have hf := HF.out w' hI; unfold relAt; go_simp; first | exact ⟨rfl, Below.refl _ _⟩ | exact Below.refl _ _ | exact ⟨trivial, Below.refl _ _⟩)
           simp only [Act.put, List.setIfInBounds_toArray, List.set_cons_zero, List.set_cons_succ])
      first
        | (refine wpRel_pass (by rfl) (fun U => by rfl) ?_; simp only [Act.put, List.setIfInBounds_toArray, List.set_cons_zero, List.set_cons_succ])
        | (refine' wpRel_fix (by rfl) (fun U => by rfl) (fun m U w' hI hG => ?_) ?_
           rotate_left
           focus (have hf := HF.out w' hI; unfold relAt; go_simp; first | exact ⟨rfl, Below.refl _ _⟩ | exact Below.refl _ _ | exact ⟨trivial, Below.refl _ _⟩)
           simp only [Act.put, List.setIfInBounds_toArray, List.set_cons_zero, List.set_cons_succ])
      first
        | (refine wpRel_pass (by rfl) (fun U => by rfl) ?_; simp only [Act.put, List.setIfInBounds_toArray, List.set_cons_zero, List.set_cons_succ])
        | (refine' wpRel_fix (by rfl) (fun U => by rfl) (fun m U w' hI hG => ?_) ?_
           rotate_left
           focus (have hf := HF.out w' hI; unfold relAt; go_simp; first | exact ⟨rfl, Below.refl _ _⟩ | exact Below.refl _ _ | exact ⟨trivial, Below.refl _ _⟩)
           simp only [Act.put, List.setIfInBounds_toArray, List.set_cons_zero, List.set_cons_succ])
      first
        | (refine wpRel_pass (by rfl) (fun U => by rfl) ?_; simp only [Act.put, List.setIfInBounds_toArray, List.set_cons_zero, List.set_cons_succ])
        | (refine' wpRel_fix (by rfl) (fun U => by rfl) (fun m U w' hI hG => ?_) ?_
           rotate_left
           focus (have hf := HF.out w' hI; unfold relAt; go_simp; first | exact ⟨rfl, Below.refl _ _⟩ | exact Below.refl _ _ | exact ⟨trivial, Below.refl _ _⟩)
           simp only [Act.put, List.setIfInBounds_toArray, List.set_cons_zero, List.set_cons_succ])
      refine wpRel_rel (RecsR ((s.drop K).map LRec.er)) rfl (RecsR.stable _) (by rfl) (fun U => by rfl) (fun m U w' hI hG => ?_) ?_
      · have hf := HF.out w' hI
        have HDA := Lib.hid (LLog.belowAll AL.out hI)
        have hla := HDA.out.lenCap
        simp only at hla
        by_cases hcq : c = K
        · have hlq : s.length = K := by omega
          have HLQ := Lib.hid hlq
          clear hlq hla
          subst hcq
          unfold relAt
          go_simp
          clear hf
          exact ⟨⟨⟨a, 0, []⟩, by simp [Loc.val, HLQ.out], by simp [← HLQ.out], ⟨Nat.le_refl _, Nat.zero_le _, by simp, by simp, by simp⟩⟩, Below.refl _ _⟩
        · have hcp : ¬ (c : Int) = (K : Int) := by omega
          have hpc : K < c := by omega
          have hpd : K ≤ c := by omega
          by_cases hs0 : s.length = 0
          · have hp0 : K = 0 := by omega
            obtain rfl : s = [] := List.eq_nil_of_length_eq_zero hs0
            subst hp0
            unfold relAt
            go_simp
            clear hf
            exact ⟨⟨⟨a, c, []⟩, rfl, rfl, HDA.out⟩, Below.refl _ _⟩
          · obtain ⟨ba, bo, hba⟩ := HDA.out.place (show 0 < s.length by omega)
            simp only at hba
            subst hba
            have HKS := Lib.hid (show K ≤ s.length by omega)
            unfold relAt
            go_simp
            clear hf
            exact ⟨⟨⟨some ⟨ba, bo + K * 5, none⟩, c - K, s.drop K⟩, by simp [Loc.val], by simp, drop_At HDA.out rfl HKS.out⟩, Below.refl _ _⟩
      simp only [Act.put, List.setIfInBounds_toArray, List.set_cons_zero, List.set_cons_succ]
      refine' wpRel_fix (by rfl) (fun U => by rfl) (fun m U w' hI hG => ?_) ?_
      rotate_left
      · obtain ⟨y, hv, hy, hA⟩ := hG _ (List.Mem.head _) (by rfl)
        simp only at hv
        have hf := HF.out w' hI
        unfold relAt
        simp only [hv]
        go_simp
        clear hf
        exact Calls.mono (lvRecs_yes ⟨xa, xc, xs⟩ y w' (LLog.belowAll AX.out hI) hA (K3.out.trans hy.symm)) fun e w'' h => ⟨h.1, h.2⟩
      simp only [Act.put, List.setIfInBounds_toArray, List.set_cons_zero, List.set_cons_succ]
      first
        | (refine wpRel_pass (by rfl) (fun U => by rfl) ?_; simp only [Act.put, List.setIfInBounds_toArray, List.set_cons_zero, List.set_cons_succ])
        | (refine' wpRel_fix (by rfl) (fun U => by rfl) (fun m U w' hI hG => ?_) ?_
           rotate_left
           focus (have hf := HF.out w' hI; unfold relAt; go_simp; first | exact ⟨rfl, Below.refl _ _⟩ | exact Below.refl _ _ | exact ⟨trivial, Below.refl _ _⟩)
           simp only [Act.put, List.setIfInBounds_toArray, List.set_cons_zero, List.set_cons_succ])
      first
        | (refine wpRel_pass (by rfl) (fun U => by rfl) ?_; simp only [Act.put, List.setIfInBounds_toArray, List.set_cons_zero, List.set_cons_succ])
        | (refine' wpRel_fix (by rfl) (fun U => by rfl) (fun m U w' hI hG => ?_) ?_
           rotate_left
           focus (have hf := HF.out w' hI; unfold relAt; go_simp; first | exact ⟨rfl, Below.refl _ _⟩ | exact Below.refl _ _ | exact ⟨trivial, Below.refl _ _⟩)
           simp only [Act.put, List.setIfInBounds_toArray, List.set_cons_zero, List.set_cons_succ])
      first
        | (refine wpRel_pass (by rfl) (fun U => by rfl) ?_; simp only [Act.put, List.setIfInBounds_toArray, List.set_cons_zero, List.set_cons_succ])
        | (refine' wpRel_fix (by rfl) (fun U => by rfl) (fun m U w' hI hG => ?_) ?_
           rotate_left
           focus (have hf := HF.out w' hI; unfold relAt; go_simp; first | exact ⟨rfl, Below.refl _ _⟩ | exact Below.refl _ _ | exact ⟨trivial, Below.refl _ _⟩)
           simp only [Act.put, List.setIfInBounds_toArray, List.set_cons_zero, List.set_cons_succ])
      refine' wpRel_fix (by rfl) (fun U => by rfl) (fun m U w' hI hG => ?_) ?_
      rotate_left
      · have hf := HF.out w' hI
        unfold relAt
        go_simp
        clear hf
        exact Calls.mono (HIX.out w' (LLog.belowAll AX.out hI)) fun e w'' h => ⟨h.1, h.2⟩
      simp only [Act.put, List.setIfInBounds_toArray, List.set_cons_zero, List.set_cons_succ]
      first
        | (refine wpRel_pass (by rfl) (fun U => by rfl) ?_; simp only [Act.put, List.setIfInBounds_toArray, List.set_cons_zero, List.set_cons_succ])
        | (refine' wpRel_fix (by rfl) (fun U => by rfl) (fun m U w' hI hG => ?_) ?_
           rotate_left
           focus (have hf := HF.out w' hI; unfold relAt; go_simp; first | exact ⟨rfl, Below.refl _ _⟩ | exact Below.refl _ _ | exact ⟨trivial, Below.refl _ _⟩)
           simp only [Act.put, List.setIfInBounds_toArray, List.set_cons_zero, List.set_cons_succ])
      refine' wpRel_fix (by rfl) (fun U => by rfl) (fun m U w' hI hG => ?_) ?_
      rotate_left
      · have hf := HF.out w' hI
        unfold relAt
        go_simp
        clear hf
        exact Calls.mono (HIE.out w' (LLog.belowAll AL.out hI)) fun e w'' h => ⟨h.1, h.2⟩
      simp only [Act.put, List.setIfInBounds_toArray, List.set_cons_zero, List.set_cons_succ]
      first
        | (refine wpRel_pass (by rfl) (fun U => by rfl) ?_; simp only [Act.put, List.setIfInBounds_toArray, List.set_cons_zero, List.set_cons_succ])
        | (refine' wpRel_fix (by rfl) (fun U => by rfl) (fun m U w' hI hG => ?_) ?_
           rotate_left
           focus (have hf := HF.out w' hI; unfold relAt; go_simp; first | exact ⟨rfl, Below.refl _ _⟩ | exact Below.refl _ _ | exact ⟨trivial, Below.refl _ _⟩)
           simp only [Act.put, List.setIfInBounds_toArray, List.set_cons_zero, List.set_cons_succ])
      first
        | (refine wpRel_pass (by rfl) (fun U => by rfl) ?_; simp only [Act.put, List.setIfInBounds_toArray, List.set_cons_zero, List.set_cons_succ])
        | (refine' wpRel_fix (by rfl) (fun U => by rfl) (fun m U w' hI hG => ?_) ?_
           rotate_left
           focus (have hf := HF.out w' hI; unfold relAt; go_simp; first | exact ⟨rfl, Below.refl _ _⟩ | exact Below.refl _ _ | exact ⟨trivial, Below.refl _ _⟩)
           simp only [Act.put, List.setIfInBounds_toArray, List.set_cons_zero, List.set_cons_succ])
      first
        | (refine wpRel_pass (by rfl) (fun U => by rfl) ?_; simp only [Act.put, List.setIfInBounds_toArray, List.set_cons_zero, List.set_cons_succ])
        | (refine' wpRel_fix (by rfl) (fun U => by rfl) (fun m U w' hI hG => ?_) ?_
           rotate_left
           focus (have hf := HF.out w' hI; unfold relAt; go_simp; first | exact ⟨rfl, Below.refl _ _⟩ | exact Below.refl _ _ | exact ⟨trivial, Below.refl _ _⟩)
           simp only [Act.put, List.setIfInBounds_toArray, List.set_cons_zero, List.set_cons_succ])
      first
        | (refine wpRel_pass (by rfl) (fun U => by rfl) ?_; simp only [Act.put, List.setIfInBounds_toArray, List.set_cons_zero, List.set_cons_succ])
        | (refine' wpRel_fix (by rfl) (fun U => by rfl) (fun m U w' hI hG => ?_) ?_
           rotate_left
           focus (have hf := HF.out w' hI; unfold relAt; go_simp; first | exact ⟨rfl, Below.refl _ _⟩ | exact Below.refl _ _ | exact ⟨trivial, Below.refl _ _⟩)
           simp only [Act.put, List.setIfInBounds_toArray, List.set_cons_zero, List.set_cons_succ])
      first
        | (refine wpRel_pass (by rfl) (fun U => by rfl) ?_; simp only [Act.put, List.setIfInBounds_toArray, List.set_cons_zero, List.set_cons_succ])
        | (refine' wpRel_fix (by rfl) (fun U => by rfl) (fun m U w' hI hG => ?_) ?_
           rotate_left
           focus (have hf := HF.out w' hI; unfold relAt; go_simp; first | exact ⟨rfl, Below.refl _ _⟩ | exact Below.refl _ _ | exact ⟨trivial, Below.refl _ _⟩)
           simp only [Act.put, List.setIfInBounds_toArray, List.set_cons_zero, List.set_cons_succ])
      first
        | (refine wpRel_pass (by rfl) (fun U => by rfl) ?_; simp only [Act.put, List.setIfInBounds_toArray, List.set_cons_zero, List.set_cons_succ])
        | (refine' wpRel_fix (by rfl) (fun U => by rfl) (fun m U w' hI hG => ?_) ?_
           rotate_left
           focus (have hf := HF.out w' hI; unfold relAt; go_simp; first | exact ⟨rfl, Below.refl _ _⟩ | exact Below.refl _ _ | exact ⟨trivial, Below.refl _ _⟩)
           simp only [Act.put, List.setIfInBounds_toArray, List.set_cons_zero, List.set_cons_succ])
      first
        | (refine wpRel_pass (by rfl) (fun U => by rfl) ?_; simp only [Act.put, List.setIfInBounds_toArray, List.set_cons_zero, List.set_cons_succ])
        | (refine' wpRel_fix (by rfl) (fun U => by rfl) (fun m U w' hI hG => ?_) ?_
           rotate_left
           focus (have hf := HF.out w' hI; unfold relAt; go_simp; first | exact ⟨rfl, Below.refl _ _⟩ | exact Below.refl _ _ | exact ⟨trivial, Below.refl _ _⟩)
           simp only [Act.put, List.setIfInBounds_toArray, List.set_cons_zero, List.set_cons_succ])
      first
        | (refine wpRel_pass (by rfl) (fun U => by rfl) ?_; simp only [Act.put, List.setIfInBounds_toArray, List.set_cons_zero, List.set_cons_succ])
        | (refine' wpRel_fix (by rfl) (fun U => by rfl) (fun m U w' hI hG => ?_) ?_
           rotate_left
           focus (have hf := HF.out w' hI; unfold relAt; go_simp; first | exact ⟨rfl, Below.refl _ _⟩ | exact Below.refl _ _ | exact ⟨trivial, Below.refl _ _⟩)
           simp only [Act.put, List.setIfInBounds_toArray, List.set_cons_zero, List.set_cons_succ])
      first
        | (refine wpRel_pass (by rfl) (fun U => by rfl) ?_; simp only [Act.put, List.setIfInBounds_toArray, List.set_cons_zero, List.set_cons_succ])
        | (refine' wpRel_fix (by rfl) (fun U => by rfl) (fun m U w' hI hG => ?_) ?_
           rotate_left
           focus (have hf := HF.out w' hI; unfold relAt; go_simp; first | exact ⟨rfl, Below.refl _ _⟩ | exact Below.refl _ _ | exact ⟨trivial, Below.refl _ _⟩)
           simp only [Act.put, List.setIfInBounds_toArray, List.set_cons_zero, List.set_cons_succ])
      first
        | (refine wpRel_pass (by rfl) (fun U => by rfl) ?_; simp only [Act.put, List.setIfInBounds_toArray, List.set_cons_zero, List.set_cons_succ])
        | (refine' wpRel_fix (by rfl) (fun U => by rfl) (fun m U w' hI hG => ?_) ?_
           rotate_left
           focus (have hf := HF.out w' hI; unfold relAt; go_simp; first | exact ⟨rfl, Below.refl _ _⟩ | exact Below.refl _ _ | exact ⟨trivial, Below.refl _ _⟩)
           simp only [Act.put, List.setIfInBounds_toArray, List.set_cons_zero, List.set_cons_succ])
      first
        | (refine wpRel_pass (by rfl) (fun U => by rfl) ?_; simp only [Act.put, List.setIfInBounds_toArray, List.set_cons_zero, List.set_cons_succ])
        | (refine' wpRel_fix (by rfl) (fun U => by rfl) (fun m U w' hI hG => ?_) ?_
           rotate_left
           focus (have hf := HF.out w' hI; unfold relAt; go_simp; first | exact ⟨rfl, Below.refl _ _⟩ | exact Below.refl _ _ | exact ⟨trivial, Below.refl _ _⟩)
           simp only [Act.put, List.setIfInBounds_toArray, List.set_cons_zero, List.set_cons_succ])
      first
        | (refine wpRel_pass (by rfl) (fun U => by rfl) ?_; simp only [Act.put, List.setIfInBounds_toArray, List.set_cons_zero, List.set_cons_succ])
        | (refine' wpRel_fix (by rfl) (fun U => by rfl) (fun m U w' hI hG => ?_) ?_
           rotate_left
           focus (have hf := HF.out w' hI; unfold relAt; go_simp; first | exact ⟨rfl, Below.refl _ _⟩ | exact Below.refl _ _ | exact ⟨trivial, Below.refl _ _⟩)
           simp only [Act.put, List.setIfInBounds_toArray, List.set_cons_zero, List.set_cons_succ])
      first
        | (refine wpRel_pass (by rfl) (fun U => by rfl) ?_; simp only [Act.put, List.setIfInBounds_toArray, List.set_cons_zero, List.set_cons_succ])
        | (refine' wpRel_fix (by rfl) (fun U => by rfl) (fun m U w' hI hG => ?_) ?_
           rotate_left
           focus (have hf := HF.out w' hI; unfold relAt; go_simp; first | exact ⟨rfl, Below.refl _ _⟩ | exact Below.refl _ _ | exact ⟨trivial, Below.refl _ _⟩)
           simp only [Act.put, List.setIfInBounds_toArray, List.set_cons_zero, List.set_cons_succ])
      first
        | (refine wpRel_pass (by rfl) (fun U => by rfl) ?_; simp only [Act.put, List.setIfInBounds_toArray, List.set_cons_zero, List.set_cons_succ])
        | (refine' wpRel_fix (by rfl) (fun U => by rfl) (fun m U w' hI hG => ?_) ?_
           rotate_left
           focus (have hf := HF.out w' hI; unfold relAt; go_simp; first | exact ⟨rfl, Below.refl _ _⟩ | exact Below.refl _ _ | exact ⟨trivial, Below.refl _ _⟩)
           simp only [Act.put, List.setIfInBounds_toArray, List.set_cons_zero, List.set_cons_succ])
      first
        | (refine wpRel_pass (by rfl) (fun U => by rfl) ?_; simp only [Act.put, List.setIfInBounds_toArray, List.set_cons_zero, List.set_cons_succ])
        | (refine' wpRel_fix (by rfl) (fun U => by rfl) (fun m U w' hI hG => ?_) ?_
           rotate_left
           focus (have hf := HF.out w' hI; unfold relAt; go_simp; first | exact ⟨rfl, Below.refl _ _⟩ | exact Below.refl _ _ | exact ⟨trivial, Below.refl _ _⟩)
           simp only [Act.put, List.setIfInBounds_toArray, List.set_cons_zero, List.set_cons_succ])
      first
        | (refine wpRel_pass (by rfl) (fun U => by rfl) ?_; simp only [Act.put, List.setIfInBounds_toArray, List.set_cons_zero, List.set_cons_succ])
        | (refine' wpRel_fix (by rfl) (fun U => by rfl) (fun m U w' hI hG => ?_) ?_
           rotate_left
           focus (have hf := HF.out w' hI; unfold relAt; go_simp; first | exact ⟨rfl, Below.refl _ _⟩ | exact Below.refl _ _ | exact ⟨trivial, Below.refl _ _⟩)
           simp only [Act.put, List.setIfInBounds_toArray, List.set_cons_zero, List.set_cons_succ])
      first
        | (refine wpRel_pass (by rfl) (fun U => by rfl) ?_; simp only [Act.put, List.setIfInBounds_toArray, List.set_cons_zero, List.set_cons_succ])
        | (refine' wpRel_fix (by rfl) (fun U => by rfl) (fun m U w' hI hG => ?_) ?_
           rotate_left
           focus (have hf := HF.out w' hI; unfold relAt; go_simp; first | exact ⟨rfl, Below.refl _ _⟩ | exact Below.refl _ _ | exact ⟨trivial, Below.refl _ _⟩)
           simp only [Act.put, List.setIfInBounds_toArray, List.set_cons_zero, List.set_cons_succ])
      first
        | (refine wpRel_pass (by rfl) (fun U => by rfl) ?_; simp only [Act.put, List.setIfInBounds_toArray, List.set_cons_zero, List.set_cons_succ])
        | (refine' wpRel_fix (by rfl) (fun U => by rfl) (fun m U w' hI hG => ?_) ?_
           rotate_left
           focus (have hf := HF.out w' hI; unfold relAt; go_simp; first | exact ⟨rfl, Below.refl _ _⟩ | exact Below.refl _ _ | exact ⟨trivial, Below.refl _ _⟩)
           simp only [Act.put, List.setIfInBounds_toArray, List.set_cons_zero, List.set_cons_succ])
      first
        | (refine wpRel_pass (by rfl) (fun U => by rfl) ?_; simp only [Act.put, List.setIfInBounds_toArray, List.set_cons_zero, List.set_cons_succ])
        | (refine' wpRel_fix (by rfl) (fun U => by rfl) (fun m U w' hI hG => ?_) ?_
           rotate_left
           focus (have hf := HF.out w' hI; unfold relAt; go_simp; first | exact ⟨rfl, Below.refl _ _⟩ | exact Below.refl _ _ | exact ⟨trivial, Below.refl _ _⟩)
           simp only [Act.put, List.setIfInBounds_toArray, List.set_cons_zero, List.set_cons_succ])
      first
        | (refine wpRel_pass (by rfl) (fun U => by rfl) ?_; simp only [Act.put, List.setIfInBounds_toArray, List.set_cons_zero, List.set_cons_succ])
        | (refine' wpRel_fix (by rfl) (fun U => by rfl) (fun m U w' hI hG => ?_) ?_
           rotate_left
           focus (have hf := HF.out w' hI; unfold relAt; go_simp; first | exact ⟨rfl, Below.refl _ _⟩ | exact Below.refl _ _ | exact ⟨trivial, Below.refl _ _⟩)
           simp only [Act.put, List.setIfInBounds_toArray, List.set_cons_zero, List.set_cons_succ])
      first
        | (refine wpRel_pass (by rfl) (fun U => by rfl) ?_; simp only [Act.put, List.setIfInBounds_toArray, List.set_cons_zero, List.set_cons_succ])
        | (refine' wpRel_fix (by rfl) (fun U => by rfl) (fun m U w' hI hG => ?_) ?_
           rotate_left
           focus (have hf := HF.out w' hI; unfold relAt; go_simp; first | exact ⟨rfl, Below.refl _ _⟩ | exact Below.refl _ _ | exact ⟨trivial, Below.refl _ _⟩)
           simp only [Act.put, List.setIfInBounds_toArray, List.set_cons_zero, List.set_cons_succ])
      first
        | (refine wpRel_pass (by rfl) (fun U => by rfl) ?_; simp only [Act.put, List.setIfInBounds_toArray, List.set_cons_zero, List.set_cons_succ])
        | (refine' wpRel_fix (by rfl) (fun U => by rfl) (fun m U w' hI hG => ?_) ?_
           rotate_left
           focus (have hf := HF.out w' hI; unfold relAt; go_simp; first | exact ⟨rfl, Below.refl _ _⟩ | exact Below.refl _ _ | exact ⟨trivial, Below.refl _ _⟩)
           simp only [Act.put, List.setIfInBounds_toArray, List.set_cons_zero, List.set_cons_succ])
      first
        | (refine wpRel_pass (by rfl) (fun U => by rfl) ?_; simp only [Act.put, List.setIfInBounds_toArray, List.set_cons_zero, List.set_cons_succ])
        | (refine' wpRel_fix (by rfl) (fun U => by rfl) (fun m U w' hI hG => ?_) ?_
           rotate_left
           focus (have hf := HF.out w' hI; unfold relAt; go_simp; first | exact ⟨rfl, Below.refl _ _⟩ | exact Below.refl _ _ | exact ⟨trivial, Below.refl _ _⟩)
           simp only [Act.put, List.setIfInBounds_toArray, List.set_cons_zero, List.set_cons_succ])
      first
        | (refine wpRel_pass (by rfl) (fun U => by rfl) ?_; simp only [Act.put, List.setIfInBounds_toArray, List.set_cons_zero, List.set_cons_succ])
        | (refine' wpRel_fix (by rfl) (fun U => by rfl) (fun m U w' hI hG => ?_) ?_
           rotate_left
           focus (have hf := HF.out w' hI; unfold relAt; go_simp; first | exact ⟨rfl, Below.refl _ _⟩ | exact Below.refl _ _ | exact ⟨trivial, Below.refl _ _⟩)
           simp only [Act.put, List.setIfInBounds_toArray, List.set_cons_zero, List.set_cons_succ])
      first
        | (refine wpRel_pass (by rfl) (fun U => by rfl) ?_; simp only [Act.put, List.setIfInBounds_toArray, List.set_cons_zero, List.set_cons_succ])
        | (refine' wpRel_fix (by rfl) (fun U => by rfl) (fun m U w' hI hG => ?_) ?_
           rotate_left
           focus (have hf := HF.out w' hI; unfold relAt; go_simp; first | exact ⟨rfl, Below.refl _ _⟩ | exact Below.refl _ _ | exact ⟨trivial, Below.refl _ _⟩)
           simp only [Act.put, List.setIfInBounds_toArray, List.set_cons_zero, List.set_cons_succ])
      first
        | (refine wpRel_pass (by rfl) (fun U => by rfl) ?_; simp only [Act.put, List.setIfInBounds_toArray, List.set_cons_zero, List.set_cons_succ])
        | (refine' wpRel_fix (by rfl) (fun U => by rfl) (fun m U w' hI hG => ?_) ?_
           rotate_left
           focus (have hf := HF.out w' hI; unfold relAt; go_simp; first | exact ⟨rfl, Below.refl _ _⟩ | exact Below.refl _ _ | exact ⟨trivial, Below.refl _ _⟩)
           simp only [Act.put, List.setIfInBounds_toArray, List.set_cons_zero, List.set_cons_succ])
      first
        | (refine wpRel_pass (by rfl) (fun U => by rfl) ?_; simp only [Act.put, List.setIfInBounds_toArray, List.set_cons_zero, List.set_cons_succ])
        | (refine' wpRel_fix (by rfl) (fun U => by rfl) (fun m U w' hI hG => ?_) ?_
           rotate_left
           focus (have hf := HF.out w' hI; unfold relAt; go_simp; first | exact ⟨rfl, Below.refl _ _⟩ | exact Below.refl _ _ | exact ⟨trivial, Below.refl _ _⟩)
           simp only [Act.put, List.setIfInBounds_toArray, List.set_cons_zero, List.set_cons_succ])
      refine' wpRel_fix (by rfl) (fun U => by rfl) (fun m U w' hI hG => ?_) ?_
      rotate_left
      · have hf := HF.out w' hI
        unfold relAt
        go_simp
        clear hf
        exact Calls.mono (HOX.out w' (LLog.belowAll AX.out hI)) fun e w'' h => ⟨h.1, h.2⟩
      simp only [Act.put, List.setIfInBounds_toArray, List.set_cons_zero, List.set_cons_succ]
      first
        | (refine wpRel_pass (by rfl) (fun U => by rfl) ?_; simp only [Act.put, List.setIfInBounds_toArray, List.set_cons_zero, List.set_cons_succ])
        | (refine' wpRel_fix (by rfl) (fun U => by rfl) (fun m U w' hI hG => ?_) ?_
           rotate_left
           focus (have hf := HF.out w' hI; unfold relAt; go_simp; first | exact ⟨rfl, Below.refl _ _⟩ | exact Below.refl _ _ | exact ⟨trivial, Below.refl _ _⟩)
           simp only [Act.put, List.setIfInBounds_toArray, List.set_cons_zero, List.set_cons_succ])
      first
        | (refine wpRel_pass (by rfl) (fun U => by rfl) ?_; simp only [Act.put, List.setIfInBounds_toArray, List.set_cons_zero, List.set_cons_succ])
        | (refine' wpRel_fix (by rfl) (fun U => by rfl) (fun m U w' hI hG => ?_) ?_
           rotate_left
           focus (have hf := HF.out w' hI; unfold relAt; go_simp; first | exact ⟨rfl, Below.refl _ _⟩ | exact Below.refl _ _ | exact ⟨trivial, Below.refl _ _⟩)
           simp only [Act.put, List.setIfInBounds_toArray, List.set_cons_zero, List.set_cons_succ])
      intro U w6 hI hG
      replace hI : Below w5.heap.size w5 w6 := hI
      replace B := Lib.hid (nextB B.out (hI))
      replace AL := Lib.hid (LLog.belowAll AL.out (hI))
      replace BL := Lib.hid (BL.out.keep (hI))
      replace AX := Lib.hid (LLog.belowAll AX.out (hI))
      replace BX := Lib.hid (BX.out.keep (hI))
      go_wp2_with fail
      go_ret
      exact ⟨rfl, B.out⟩
    · have h6 : n < xf + 5 := by have := HK6.out; omega
      have HF : Hid (∀ w', Below w5.heap.size w5 w' → w'.cell? ⟨p, 0, none⟩ = some (.int .i64 f) ∧ w'.cell? ⟨p, 1, none⟩ = some (.slice a s.length c) ∧ w'.cell? ⟨q, 0, none⟩ = some (.int .i64 xf) ∧ w'.cell? ⟨q, 1, none⟩ = some (.slice xa xs.length xc)) :=
        Lib.hid (fun w' h => ⟨(BL.out.keep h).2 0 _ rfl, (BL.out.keep h).2 1 _ rfl, (BX.out.keep h).2 0 _ rfl, (BX.out.keep h).2 1 _ rfl⟩)
      refine wp_region_rel 58 (by kernel_rfl) (by kernel_rfl) (by rfl) ?_
      simp only [List.take_succ_cons, List.take_zero, List.drop_succ_cons, List.drop_zero]
      first
        | (refine wpRel_pass (by rfl) (fun U => by rfl) ?_; simp only [Act.put, List.setIfInBounds_toArray, List.set_cons_zero, List.set_cons_succ])
        | (refine' wpRel_fix (by rfl) (fun U => by rfl) (fun m U w' hI hG => ?_) ?_
           rotate_left
           focus (have hf := HF.out w' hI; unfold relAt; go_simp; first | exact ⟨rfl, Below.refl _ _⟩ | exact Below.refl _ _ | exact ⟨trivial, Below.refl _ _⟩)
           simp only [Act.put, List.setIfInBounds_toArray, List.set_cons_zero, List.set_cons_succ])
      first
        | (refine wpRel_pass (by rfl) (fun U => by rfl) ?_; simp only [Act.put, List.setIfInBounds_toArray, List.set_cons_zero, List.set_cons_succ])
        | (refine' wpRel_fix (by rfl) (fun U => by rfl) (fun m U w' hI hG => ?_) ?_
           rotate_left
           focus (have hf := HF.out w' hI; unfold relAt; go_simp; first | exact ⟨rfl, Below.refl _ _⟩ | exact Below.refl _ _ | exact ⟨trivial, Below.refl _ _⟩)
           simp only [Act.put, List.setIfInBounds_toArray, List.set_cons_zero, List.set_cons_succ])
      first
        | (refine wpRel_pass (by rfl) (fun U => by rfl) ?_; simp only [Act.put, List.setIfInBounds_toArray, List.set_cons_zero, List.set_cons_succ])
        | (refine' wpRel_fix (by rfl) (fun U => by rfl) (fun m U w' hI hG => ?_) ?_
           rotate_left
           focus (have hf := HF.out w' hI; unfold relAt; go_simp; first | exact ⟨rfl, Below.refl _ _⟩ | exact Below.refl _ _ | exact ⟨trivial, Below.refl _ _⟩)
           simp only [Act.put, List.setIfInBounds_toArray, List.set_cons_zero, List.set_cons_succ])
      first
        | (refine wpRel_pass (by rfl) (fun U => by rfl) ?_; simp only [Act.put, List.setIfInBounds_toArray, List.set_cons_zero, List.set_cons_succ])
        | (refine' wpRel_fix (by rfl) (fun U => by rfl) (fun m U w' hI hG => ?_) ?_
           rotate_left
           focus (have hf := HF.out w' hI; unfold relAt; go_simp; first | exact ⟨rfl, Below.refl _ _⟩ | exact Below.refl _ _ | exact ⟨trivial, Below.refl _ _⟩)
           simp only [Act.put, List.setIfInBounds_toArray, List.set_cons_zero, List.set_cons_succ])
      first
        | (refine wpRel_pass (by rfl) (fun U => by rfl) ?_; simp only [Act.put, List.setIfInBounds_toArray, List.set_cons_zero, List.set_cons_succ])
        | (refine' wpRel_fix (by rfl) (fun U => by rfl) (fun m U w' hI hG => ?_) ?_
           rotate_left
           focus (have hf := HF.out w' hI; unfold relAt; go_simp; first | exact ⟨rfl, Below.refl _ _⟩ | exact Below.refl _ _ | exact ⟨trivial, Below.refl _ _⟩)
           simp only [Act.put, List.setIfInBounds_toArray, List.set_cons_zero, List.set_cons_succ])
      first
        | (refine wpRel_pass (by rfl) (fun U => by rfl) ?_; simp only [Act.put, List.setIfInBounds_toArray, List.set_cons_zero, List.set_cons_succ])
        | (refine' wpRel_fix (by rfl) (fun U => by rfl) (fun m U w' hI hG => ?_) ?_
           rotate_left
           focus (have hf := HF.out w' hI; unfold relAt; go_simp; first | exact ⟨rfl, Below.refl _ _⟩ | exact Below.refl _ _ | exact ⟨trivial, Below.refl _ _⟩)
           simp only [Act.put, List.setIfInBounds_toArray, List.set_cons_zero, List.set_cons_succ])
      first
        | (refine wpRel_pass (by rfl) (fun U => by rfl) ?_; simp only [Act.put, List.setIfInBounds_toArray, List.set_cons_zero, List.set_cons_succ])
        | (refine' wpRel_fix (by rfl) (fun U => by rfl) (fun m U w' hI hG => ?_) ?_
           rotate_left
           focus (have hf := HF.out w' hI; unfold relAt; go_simp; first | exact ⟨rfl, Below.refl _ _⟩ | exact Below.refl _ _ | exact ⟨trivial, Below.refl _ _⟩)
           simp only [Act.put, List.setIfInBounds_toArray, List.set_cons_zero, List.set_cons_succ])
      first
        | (refine wpRel_pass (by rfl) (fun U => by rfl) ?_; simp only [Act.put, List.setIfInBounds_toArray, List.set_cons_zero, List.set_cons_succ])
        | (refine' wpRel_fix (by rfl) (fun U => by rfl) (fun m U w' hI hG => ?_) ?_
           rotate_left
           focus (have hf := HF.out w' hI; unfold relAt; go_simp; first | exact ⟨rfl, Below.refl _ _⟩ | exact Below.refl _ _ | exact ⟨trivial, Below.refl _ _⟩)
           simp only [Act.put, List.setIfInBounds_toArray, List.set_cons_zero, List.set_cons_succ])
      first
        | (refine wpRel_pass (by rfl) (fun U => by rfl) ?_; simp only [Act.put, List.setIfInBounds_toArray, List.set_cons_zero, List.set_cons_succ])
        | (refine' wpRel_fix (by rfl) (fun U => by rfl) (fun m U w' hI hG => ?_) ?_
           rotate_left
           focus (have hf := HF.out w' hI; unfold relAt; go_simp; first | exact ⟨rfl, Below.refl _ _⟩ | exact Below.refl _ _ | exact ⟨trivial, Below.refl _ _⟩)
           simp only [Act.put, List.setIfInBounds_toArray, List.set_cons_zero, List.set_cons_succ])
      first
        | (refine wpRel_pass (by rfl) (fun U => by rfl) ?_; simp only [Act.put, List.setIfInBounds_toArray, List.set_cons_zero, List.set_cons_succ])
        | (refine' wpRel_fix (by rfl) (fun U => by rfl) (fun m U w' hI hG => ?_) ?_
           rotate_left
           focus (have hf := HF.out w' hI; unfold relAt; go_simp; first | exact ⟨rfl, Below.refl _ _⟩ | exact Below.refl _ _ | exact ⟨trivial, Below.refl _ _⟩)
           simp only [Act.put, List.setIfInBounds_toArray, List.set_cons_zero, List.set_cons_succ])
      first
        | (refine wpRel_pass (by rfl) (fun U => by rfl) ?_; simp only [Act.put, List.setIfInBounds_toArray, List.set_cons_zero, List.set_cons_succ])
        | (refine' wpRel_fix (by rfl) (fun U => by rfl) (fun m U w' hI hG => ?_) ?_
           rotate_left
           focus (have hf := HF.out w' hI; unfold relAt; go_simp; first | exact ⟨rfl, Below.refl _ _⟩ | exact Below.refl _ _ | exact ⟨trivial, Below.refl _ _⟩)
           simp only [Act.put, List.setIfInBounds_toArray, List.set_cons_zero, List.set_cons_succ])
      first
        | (refine wpRel_pass (by rfl) (fun U => by rfl) ?_; simp only [Act.put, List.setIfInBounds_toArray, List.set_cons_zero, List.set_cons_succ])
        | (refine' wpRel_fix (by rfl) (fun U => by rfl) (fun m U w' hI hG => ?_) ?_
           rotate_left
           focus (have hf := HF.out w' hI; unfold relAt; go_simp; first | exact ⟨rfl, Below.refl _ _⟩ | exact Below.refl _ _ | exact ⟨trivial, Below.refl _ _⟩)
           simp only [Act.put, List.setIfInBounds_toArray, List.set_cons_zero, List.set_cons_succ])
      first
        | (refine wpRel_pass (by rfl) (fun U => by rfl) ?_; simp only [Act.put, List.setIfInBounds_toArray, List.set_cons_zero, List.set_cons_succ])
        | (refine' wpRel_fix (by rfl) (fun U => by rfl) (fun m U w' hI hG => ?_) ?_
           rotate_left
           focus (have hf := HF.out w' hI; unfold relAt; go_simp; first | exact ⟨rfl, Below.refl _ _⟩ | exact Below.refl _ _ | exact ⟨trivial, Below.refl _ _⟩)
           simp only [Act.put, List.setIfInBounds_toArray, List.set_cons_zero, List.set_cons_succ])
      first
        | (refine wpRel_pass (by rfl) (fun U => by rfl) ?_; simp only [Act.put, List.setIfInBounds_toArray, List.set_cons_zero, List.set_cons_succ])
        | (refine' wpRel_fix (by rfl) (fun U => by rfl) (fun m U w' hI hG => ?_) ?_
           rotate_left
           focus (have hf := HF.out w' hI; unfold relAt; go_simp; first | exact ⟨rfl, Below.refl _ _⟩ | exact Below.refl _ _ | exact ⟨trivial, Below.refl _ _⟩)
           simp only [Act.put, List.setIfInBounds_toArray, List.set_cons_zero, List.set_cons_succ])
      first
        | (refine wpRel_pass (by rfl) (fun U => by rfl) ?_; simp only [Act.put, List.setIfInBounds_toArray, List.set_cons_zero, List.set_cons_succ])
        | (refine' wpRel_fix (by rfl) (fun U => by rfl) (fun m U w' hI hG => ?_) ?_
           rotate_left
           focus (have hf := HF.out w' hI; unfold relAt; go_simp; first | exact ⟨rfl, Below.refl _ _⟩ | exact Below.refl _ _ | exact ⟨trivial, Below.refl _ _⟩)
           simp only [Act.put, List.setIfInBounds_toArray, List.set_cons_zero, List.set_cons_succ])
      first
        | (refine wpRel_pass (by rfl) (fun U => by rfl) ?_; simp only [Act.put, List.setIfInBounds_toArray, List.set_cons_zero, List.set_cons_succ])
        | (refine' wpRel_fix (by rfl) (fun U => by rfl) (fun m U w' hI hG => ?_) ?_
           rotate_left
           focus (have hf := HF.out w' hI; unfold relAt; go_simp; first | exact ⟨rfl, Below.refl _ _⟩ | exact Below.refl _ _ | exact ⟨trivial, Below.refl _ _⟩)
           simp only [Act.put, List.setIfInBounds_toArray, List.set_cons_zero, List.set_cons_succ])
      first
        | (refine wpRel_pass (by rfl) (fun U => by rfl) ?_; simp only [Act.put, List.setIfInBounds_toArray, List.set_cons_zero, List.set_cons_succ])
        | (refine' wpRel_fix (by rfl) (fun U => by rfl) (fun m U w' hI hG => ?_) ?_
           rotate_left
           focus (have hf := HF.out w' hI; unfold relAt; go_simp; first | exact ⟨rfl, Below.refl _ _⟩ | exact Below.refl _ _ | exact ⟨trivial, Below.refl _ _⟩)
           simp only [Act.put, List.setIfInBounds_toArray, List.set_cons_zero, List.set_cons_succ])
      first
        | (refine wpRel_pass (by rfl) (fun U => by rfl) ?_; simp only [Act.put, List.setIfInBounds_toArray, List.set_cons_zero, List.set_cons_succ])
        | (refine' wpRel_fix (by rfl) (fun U => by rfl) (fun m U w' hI hG => ?_) ?_
           rotate_left
           focus (have hf := HF.out w' hI; unfold relAt; go_simp; first | exact ⟨rfl, Below.refl _ _⟩ | exact Below.refl _ _ | exact ⟨trivial, Below.refl _ _⟩)
           simp only [Act.put, List.setIfInBounds_toArray, List.set_cons_zero, List.set_cons_succ])
      first
        | (refine wpRel_pass (by rfl) (fun U => by rfl) ?_; simp only [Act.put, List.setIfInBounds_toArray, List.set_cons_zero, List.set_cons_succ])
        | (refine' wpRel_fix (by rfl) (fun U => by rfl) (fun m U w' hI hG => ?_) ?_
           rotate_left
           focus (have hf := HF.out w' hI; unfold relAt; go_simp; first | exact ⟨rfl, Below.refl _ _⟩ | exact Below.refl _ _ | exact ⟨trivial, Below.refl _ _⟩)
           simp only [Act.put, List.setIfInBounds_toArray, List.set_cons_zero, List.set_cons_succ])
      first
        | (refine wpRel_pass (by rfl) (fun U => by rfl) ?_; simp only [Act.put, List.setIfInBounds_toArray, List.set_cons_zero, List.set_cons_succ])
        | (refine' wpRel_fix (by rfl) (fun U => by rfl) (fun m U w' hI hG => ?_) ?_
           rotate_left
           focus (have hf := HF.out w' hI; unfold relAt; go_simp; first | exact ⟨rfl, Below.refl _ _⟩ | exact Below.refl _ _ | exact ⟨trivial, Below.refl _ _⟩)
           simp only [Act.put, List.setIfInBounds_toArray, List.set_cons_zero, List.set_cons_succ])
      refine wpRel_rel (RecsR ((s.drop K).map LRec.er)) rfl (RecsR.stable _) (by rfl) (fun U => by rfl) (fun m U w' hI hG => ?_) ?_
      · have hf := HF.out w' hI
        have HDA := Lib.hid (LLog.belowAll AL.out hI)
        have hla := HDA.out.lenCap
        simp only at hla
        by_cases hcq : c = K
        · have hlq : s.length = K := by omega
          have HLQ := Lib.hid hlq
          clear hlq hla
          subst hcq
          unfold relAt
          go_simp
          clear hf
          exact ⟨⟨⟨a, 0, []⟩, by simp [Loc.val, HLQ.out], by simp [← HLQ.out], ⟨Nat.le_refl _, Nat.zero_le _, by simp, by simp, by simp⟩⟩, Below.refl _ _⟩
        · have hcp : ¬ (c : Int) = (K : Int) := by omega
          have hpc : K < c := by omega
          have hpd : K ≤ c := by omega
          by_cases hs0 : s.length = 0
          · have hp0 : K = 0 := by omega
            obtain rfl : s = [] := List.eq_nil_of_length_eq_zero hs0
            subst hp0
            unfold relAt
            go_simp
            clear hf
            exact ⟨⟨⟨a, c, []⟩, rfl, rfl, HDA.out⟩, Below.refl _ _⟩
          · obtain ⟨ba, bo, hba⟩ := HDA.out.place (show 0 < s.length by omega)
            simp only at hba
            subst hba
            have HKS := Lib.hid (show K ≤ s.length by omega)
            unfold relAt
            go_simp
            clear hf
            exact ⟨⟨⟨some ⟨ba, bo + K * 5, none⟩, c - K, s.drop K⟩, by simp [Loc.val], by simp, drop_At HDA.out rfl HKS.out⟩, Below.refl _ _⟩
      simp only [Act.put, List.setIfInBounds_toArray, List.set_cons_zero, List.set_cons_succ]
      refine' wpRel_fix (by rfl) (fun U => by rfl) (fun m U w' hI hG => ?_) ?_
      rotate_left
      · obtain ⟨y, hv, hy, hA⟩ := hG _ (List.Mem.head _) (by rfl)
        simp only at hv
        have hf := HF.out w' hI
        unfold relAt
        simp only [hv]
        go_simp
        clear hf
        exact Calls.mono (lvRecs_yes ⟨xa, xc, xs⟩ y w' (LLog.belowAll AX.out hI) hA (K3.out.trans hy.symm)) fun e w'' h => ⟨h.1, h.2⟩
      simp only [Act.put, List.setIfInBounds_toArray, List.set_cons_zero, List.set_cons_succ]
      first
        | (refine wpRel_pass (by rfl) (fun U => by rfl) ?_; simp only [Act.put, List.setIfInBounds_toArray, List.set_cons_zero, List.set_cons_succ])
        | (refine' wpRel_fix (by rfl) (fun U => by rfl) (fun m U w' hI hG => ?_) ?_
           rotate_left
           focus (have hf := HF.out w' hI; unfold relAt; go_simp; first | exact ⟨rfl, Below.refl _ _⟩ | exact Below.refl _ _ | exact ⟨trivial, Below.refl _ _⟩)
           simp only [Act.put, List.setIfInBounds_toArray, List.set_cons_zero, List.set_cons_succ])
      first
        | (refine wpRel_pass (by rfl) (fun U => by rfl) ?_; simp only [Act.put, List.setIfInBounds_toArray, List.set_cons_zero, List.set_cons_succ])
        | (refine' wpRel_fix (by rfl) (fun U => by rfl) (fun m U w' hI hG => ?_) ?_
           rotate_left
           focus (have hf := HF.out w' hI; unfold relAt; go_simp; first | exact ⟨rfl, Below.refl _ _⟩ | exact Below.refl _ _ | exact ⟨trivial, Below.refl _ _⟩)
           simp only [Act.put, List.setIfInBounds_toArray, List.set_cons_zero, List.set_cons_succ])
      first
        | (refine wpRel_pass (by rfl) (fun U => by rfl) ?_; simp only [Act.put, List.setIfInBounds_toArray, List.set_cons_zero, List.set_cons_succ])
        | (refine' wpRel_fix (by rfl) (fun U => by rfl) (fun m U w' hI hG => ?_) ?_
           rotate_left
           focus (have hf := HF.out w' hI; unfold relAt; go_simp; first | exact ⟨rfl, Below.refl _ _⟩ | exact Below.refl _ _ | exact ⟨trivial, Below.refl _ _⟩)
           simp only [Act.put, List.setIfInBounds_toArray, List.set_cons_zero, List.set_cons_succ])
      refine' wpRel_fix (by rfl) (fun U => by rfl) (fun m U w' hI hG => ?_) ?_
      rotate_left
      · have hf := HF.out w' hI
        unfold relAt
        go_simp
        clear hf
        exact Calls.mono (HIX.out w' (LLog.belowAll AX.out hI)) fun e w'' h => ⟨h.1, h.2⟩
      simp only [Act.put, List.setIfInBounds_toArray, List.set_cons_zero, List.set_cons_succ]
      first
        | (refine wpRel_pass (by rfl) (fun U => by rfl) ?_; simp only [Act.put, List.setIfInBounds_toArray, List.set_cons_zero, List.set_cons_succ])
        | (refine' wpRel_fix (by rfl) (fun U => by rfl) (fun m U w' hI hG => ?_) ?_
           rotate_left
           focus (have hf := HF.out w' hI; unfold relAt; go_simp; first | exact ⟨rfl, Below.refl _ _⟩ | exact Below.refl _ _ | exact ⟨trivial, Below.refl _ _⟩)
           simp only [Act.put, List.setIfInBounds_toArray, List.set_cons_zero, List.set_cons_succ])
      refine' wpRel_fix (by rfl) (fun U => by rfl) (fun m U w' hI hG => ?_) ?_
      rotate_left
      · have hf := HF.out w' hI
        unfold relAt
        go_simp
        clear hf
        exact Calls.mono (HIE.out w' (LLog.belowAll AL.out hI)) fun e w'' h => ⟨h.1, h.2⟩
      simp only [Act.put, List.setIfInBounds_toArray, List.set_cons_zero, List.set_cons_succ]
      first
        | (refine wpRel_pass (by rfl) (fun U => by rfl) ?_; simp only [Act.put, List.setIfInBounds_toArray, List.set_cons_zero, List.set_cons_succ])
        | (refine' wpRel_fix (by rfl) (fun U => by rfl) (fun m U w' hI hG => ?_) ?_
           rotate_left
           focus (have hf := HF.out w' hI; unfold relAt; go_simp; first | exact ⟨rfl, Below.refl _ _⟩ | exact Below.refl _ _ | exact ⟨trivial, Below.refl _ _⟩)
           simp only [Act.put, List.setIfInBounds_toArray, List.set_cons_zero, List.set_cons_succ])
      first
        | (refine wpRel_pass (by rfl) (fun U => by rfl) ?_; simp only [Act.put, List.setIfInBounds_toArray, List.set_cons_zero, List.set_cons_succ])
        | (refine' wpRel_fix (by rfl) (fun U => by rfl) (fun m U w' hI hG => ?_) ?_
           rotate_left
           focus (have hf := HF.out w' hI; unfold relAt; go_simp; first | exact ⟨rfl, Below.refl _ _⟩ | exact Below.refl _ _ | exact ⟨trivial, Below.refl _ _⟩)
           simp only [Act.put, List.setIfInBounds_toArray, List.set_cons_zero, List.set_cons_succ])
      first
        | (refine wpRel_pass (by rfl) (fun U => by rfl) ?_; simp only [Act.put, List.setIfInBounds_toArray, List.set_cons_zero, List.set_cons_succ])
        | (refine' wpRel_fix (by rfl) (fun U => by rfl) (fun m U w' hI hG => ?_) ?_
           rotate_left
           focus (have hf := HF.out w' hI; unfold relAt; go_simp; first | exact ⟨rfl, Below.refl _ _⟩ | exact Below.refl _ _ | exact ⟨trivial, Below.refl _ _⟩)
           simp only [Act.put, List.setIfInBounds_toArray, List.set_cons_zero, List.set_cons_succ])
      first
        | (refine wpRel_pass (by rfl) (fun U => by rfl) ?_; simp only [Act.put, List.setIfInBounds_toArray, List.set_cons_zero, List.set_cons_succ])
        | (refine' wpRel_fix (by rfl) (fun U => by rfl) (fun m U w' hI hG => ?_) ?_
           rotate_left
           focus (have hf := HF.out w' hI; unfold relAt; go_simp; first | exact ⟨rfl, Below.refl _ _⟩ | exact Below.refl _ _ | exact ⟨trivial, Below.refl _ _⟩)
           simp only [Act.put, List.setIfInBounds_toArray, List.set_cons_zero, List.set_cons_succ])
      first
        | (refine wpRel_pass (by rfl) (fun U => by rfl) ?_; simp only [Act.put, List.setIfInBounds_toArray, List.set_cons_zero, List.set_cons_succ])
        | (refine' wpRel_fix (by rfl) (fun U => by rfl) (fun m U w' hI hG => ?_) ?_
           rotate_left
           focus (have hf := HF.out w' hI; unfold relAt; go_simp; first | exact ⟨rfl, Below.refl _ _⟩ | exact Below.refl _ _ | exact ⟨trivial, Below.refl _ _⟩)
           simp only [Act.put, List.setIfInBounds_toArray, List.set_cons_zero, List.set_cons_succ])
      first
        | (refine wpRel_pass (by rfl) (fun U => by rfl) ?_; simp only [Act.put, List.setIfInBounds_toArray, List.set_cons_zero, List.set_cons_succ])
        | (refine' wpRel_fix (by rfl) (fun U => by rfl) (fun m U w' hI hG => ?_) ?_
           rotate_left
           focus (have hf := HF.out w' hI; unfold relAt; go_simp; first | exact ⟨rfl, Below.refl _ _⟩ | exact Below.refl _ _ | exact ⟨trivial, Below.refl _ _⟩)
           simp only [Act.put, List.setIfInBounds_toArray, List.set_cons_zero, List.set_cons_succ])
      first
        | (refine wpRel_pass (by rfl) (fun U => by rfl) ?_; simp only [Act.put, List.setIfInBounds_toArray, List.set_cons_zero, List.set_cons_succ])
        | (refine' wpRel_fix (by rfl) (fun U => by rfl) (fun m U w' hI hG => ?_) ?_
           rotate_left
           focus (have hf := HF.out w' hI; unfold relAt; go_simp; first | exact ⟨rfl, Below.refl _ _⟩ | exact Below.refl _ _ | exact ⟨trivial, Below.refl _ _⟩)
           simp only [Act.put, List.setIfInBounds_toArray, List.set_cons_zero, List.set_cons_succ])
      first
        | (refine wpRel_pass (by rfl) (fun U => by rfl) ?_; simp only [Act.put, List.setIfInBounds_toArray, List.set_cons_zero, List.set_cons_succ])
        | (refine' wpRel_fix (by rfl) (fun U => by rfl) (fun m U w' hI hG => ?_) ?_
           rotate_left
           focus (have hf := HF.out w' hI; unfold relAt; go_simp; first | exact ⟨rfl, Below.refl _ _⟩ | exact Below.refl _ _ | exact ⟨trivial, Below.refl _ _⟩)
           simp only [Act.put, List.setIfInBounds_toArray, List.set_cons_zero, List.set_cons_succ])
      first
        | (refine wpRel_pass (by rfl) (fun U => by rfl) ?_; simp only [Act.put, List.setIfInBounds_toArray, List.set_cons_zero, List.set_cons_succ])
        | (refine' wpRel_fix (by rfl) (fun U => by rfl) (fun m U w' hI hG => ?_) ?_
           rotate_left
           focus (have hf := HF.out w' hI; unfold relAt; go_simp; first | exact ⟨rfl, Below.refl _ _⟩ | exact Below.refl _ _ | exact ⟨trivial, Below.refl _ _⟩)
           simp only [Act.put, List.setIfInBounds_toArray, List.set_cons_zero, List.set_cons_succ])
      first
        | (refine wpRel_pass (by rfl) (fun U => by rfl) ?_; simp only [Act.put, List.setIfInBounds_toArray, List.set_cons_zero, List.set_cons_succ])
        | (refine' wpRel_fix (by rfl) (fun U => by rfl) (fun m U w' hI hG => ?_) ?_
           rotate_left
           focus (have hf := HF.out w' hI; unfold relAt; go_simp; first | exact ⟨rfl, Below.refl _ _⟩ | exact Below.refl _ _ | exact ⟨trivial, Below.refl _ _⟩)
           simp only [Act.put, List.setIfInBounds_toArray, List.set_cons_zero, List.set_cons_succ])
      first
        | (refine wpRel_pass (by rfl) (fun U => by rfl) ?_; simp only [Act.put, List.setIfInBounds_toArray, List.set_cons_zero, List.set_cons_succ])
        | (refine' wpRel_fix (by rfl) (fun U => by rfl) (fun m U w' hI hG => ?_) ?_
           rotate_left
           focus (have hf := HF.out w' hI; unfold relAt; go_simp; first | exact ⟨rfl, Below.refl _ _⟩ | exact Below.refl _ _ | exact ⟨trivial, Below.refl _ _⟩)
           simp only [Act.put, List.setIfInBounds_toArray, List.set_cons_zero, List.set_cons_succ])
      first
        | (refine wpRel_pass (by rfl) (fun U => by rfl) ?_; simp only [Act.put, List.setIfInBounds_toArray, List.set_cons_zero, List.set_cons_succ])
        | (refine' wpRel_fix (by rfl) (fun U => by rfl) (fun m U w' hI hG => ?_) ?_
           rotate_left
           focus (have hf := HF.out w' hI; unfold relAt; go_simp; first | exact ⟨rfl, Below.refl _ _⟩ | exact Below.refl _ _ | exact ⟨trivial, Below.refl _ _⟩)
           simp only [Act.put, List.setIfInBounds_toArray, List.set_cons_zero, List.set_cons_succ])
      first
        | (refine wpRel_pass (by rfl) (fun U => by rfl) ?_; simp only [Act.put, List.setIfInBounds_toArray, List.set_cons_zero, List.set_cons_succ])
        | (refine' wpRel_fix (by rfl) (fun U => by rfl) (fun m U w' hI hG => ?_) ?_
           rotate_left
           focus (have hf := HF.out w' hI; unfold relAt; go_simp; first | exact ⟨rfl, Below.refl _ _⟩ | exact Below.refl _ _ | exact ⟨trivial, Below.refl _ _⟩)
           simp only [Act.put, List.setIfInBounds_toArray, List.set_cons_zero, List.set_cons_succ])
      first
        | (refine wpRel_pass (by rfl) (fun U => by rfl) ?_; simp only [Act.put, List.setIfInBounds_toArray, List.set_cons_zero, List.set_cons_succ])
        | (refine' wpRel_fix (by rfl) (fun U => by rfl) (fun m U w' hI hG => ?_) ?_
           rotate_left
           focus (have hf := HF.out w' hI; unfold relAt; go_simp; first | exact ⟨rfl, Below.refl _ _⟩ | exact Below.refl _ _ | exact ⟨trivial, Below.refl _ _⟩)
           simp only [Act.put, List.setIfInBounds_toArray, List.set_cons_zero, List.set_cons_succ])
      first
        | (refine wpRel_pass (by rfl) (fun U => by rfl) ?_; simp only [Act.put, List.setIfInBounds_toArray, List.set_cons_zero, List.set_cons_succ])
        | (refine' wpRel_fix (by rfl) (fun U => by rfl) (fun m U w' hI hG => ?_) ?_
           rotate_left
           focus (have hf := HF.out w' hI; unfold relAt; go_simp; first | exact ⟨rfl, Below.refl _ _⟩ | exact Below.refl _ _ | exact ⟨trivial, Below.refl _ _⟩)
           simp only [Act.put, List.setIfInBounds_toArray, List.set_cons_zero, List.set_cons_succ])
      first
        | (refine wpRel_pass (by rfl) (fun U => by rfl) ?_; simp only [Act.put, List.setIfInBounds_toArray, List.set_cons_zero, List.set_cons_succ])
        | (refine' wpRel_fix (by rfl) (fun U => by rfl) (fun m U w' hI hG => ?_) ?_
           rotate_left
           focus (have hf := HF.out w' hI; unfold relAt; go_simp; first | exact ⟨rfl, Below.refl _ _⟩ | exact Below.refl _ _ | exact ⟨trivial, Below.refl _ _⟩)
           simp only [Act.put, List.setIfInBounds_toArray, List.set_cons_zero, List.set_cons_succ])
      first
        | (refine wpRel_pass (by rfl) (fun U => by rfl) ?_; simp only [Act.put, List.setIfInBounds_toArray, List.set_cons_zero, List.set_cons_succ])
        | (refine' wpRel_fix (by rfl) (fun U => by rfl) (fun m U w' hI hG => ?_) ?_
           rotate_left
           focus (have hf := HF.out w' hI; unfold relAt; go_simp; first | exact ⟨rfl, Below.refl _ _⟩ | exact Below.refl _ _ | exact ⟨trivial, Below.refl _ _⟩)
           simp only [Act.put, List.setIfInBounds_toArray, List.set_cons_zero, List.set_cons_succ])
      first
        | (refine wpRel_pass (by rfl) (fun U => by rfl) ?_; simp only [Act.put, List.setIfInBounds_toArray, List.set_cons_zero, List.set_cons_succ])
        | (refine' wpRel_fix (by rfl) (fun U => by rfl) (fun m U w' hI hG => ?_) ?_
           rotate_left
           focus (have hf := HF.out w' hI; unfold relAt; go_simp; first | exact ⟨rfl, Below.refl _ _⟩ | exact Below.refl _ _ | exact ⟨trivial, Below.refl _ _⟩)
           simp only [Act.put, List.setIfInBounds_toArray, List.set_cons_zero, List.set_cons_succ])
      first
        | (refine wpRel_pass (by rfl) (fun U => by rfl) ?_; simp only [Act.put, List.setIfInBounds_toArray, List.set_cons_zero, List.set_cons_succ])
        | (refine' wpRel_fix (by rfl) (fun U => by rfl) (fun m U w' hI hG => ?_) ?_
           rotate_left
           focus (have hf := HF.out w' hI; unfold relAt; go_simp; first | exact ⟨rfl, Below.refl _ _⟩ | exact Below.refl _ _ | exact ⟨trivial, Below.refl _ _⟩)
           simp only [Act.put, List.setIfInBounds_toArray, List.set_cons_zero, List.set_cons_succ])
      first
        | (refine wpRel_pass (by rfl) (fun U => by rfl) ?_; simp only [Act.put, List.setIfInBounds_toArray, List.set_cons_zero, List.set_cons_succ])
        | (refine' wpRel_fix (by rfl) (fun U => by rfl) (fun m U w' hI hG => ?_) ?_
           rotate_left
           focus (have hf := HF.out w' hI; unfold relAt; go_simp; first | exact ⟨rfl, Below.refl _ _⟩ | exact Below.refl _ _ | exact ⟨trivial, Below.refl _ _⟩)
           simp only [Act.put, List.setIfInBounds_toArray, List.set_cons_zero, List.set_cons_succ])
      first
        | (refine wpRel_pass (by rfl) (fun U => by rfl) ?_; simp only [Act.put, List.setIfInBounds_toArray, List.set_cons_zero, List.set_cons_succ])
        | (refine' wpRel_fix (by rfl) (fun U => by rfl) (fun m U w' hI hG => ?_) ?_
           rotate_left
           focus (have hf := HF.out w' hI; unfold relAt; go_simp; first | exact ⟨rfl, Below.refl _ _⟩ | exact Below.refl _ _ | exact ⟨trivial, Below.refl _ _⟩)
           simp only [Act.put, List.setIfInBounds_toArray, List.set_cons_zero, List.set_cons_succ])
      first
        | (refine wpRel_pass (by rfl) (fun U => by rfl) ?_; simp only [Act.put, List.setIfInBounds_toArray, List.set_cons_zero, List.set_cons_succ])
        | (refine' wpRel_fix (by rfl) (fun U => by rfl) (fun m U w' hI hG => ?_) ?_
           rotate_left
           focus (have hf := HF.out w' hI; unfold relAt; go_simp; first | exact ⟨rfl, Below.refl _ _⟩ | exact Below.refl _ _ | exact ⟨trivial, Below.refl _ _⟩)
           simp only [Act.put, List.setIfInBounds_toArray, List.set_cons_zero, List.set_cons_succ])
      first
        | (refine wpRel_pass (by rfl) (fun U => by rfl) ?_; simp only [Act.put, List.setIfInBounds_toArray, List.set_cons_zero, List.set_cons_succ])
        | (refine' wpRel_fix (by rfl) (fun U => by rfl) (fun m U w' hI hG => ?_) ?_
           rotate_left
           focus (have hf := HF.out w' hI; unfold relAt; go_simp; first | exact ⟨rfl, Below.refl _ _⟩ | exact Below.refl _ _ | exact ⟨trivial, Below.refl _ _⟩)
           simp only [Act.put, List.setIfInBounds_toArray, List.set_cons_zero, List.set_cons_succ])
      first
        | (refine wpRel_pass (by rfl) (fun U => by rfl) ?_; simp only [Act.put, List.setIfInBounds_toArray, List.set_cons_zero, List.set_cons_succ])
        | (refine' wpRel_fix (by rfl) (fun U => by rfl) (fun m U w' hI hG => ?_) ?_
           rotate_left
           focus (have hf := HF.out w' hI; unfold relAt; go_simp; first | exact ⟨rfl, Below.refl _ _⟩ | exact Below.refl _ _ | exact ⟨trivial, Below.refl _ _⟩)
           simp only [Act.put, List.setIfInBounds_toArray, List.set_cons_zero, List.set_cons_succ])
      first
        | (refine wpRel_pass (by rfl) (fun U => by rfl) ?_; simp only [Act.put, List.setIfInBounds_toArray, List.set_cons_zero, List.set_cons_succ])
        | (refine' wpRel_fix (by rfl) (fun U => by rfl) (fun m U w' hI hG => ?_) ?_
           rotate_left
           focus (have hf := HF.out w' hI; unfold relAt; go_simp; first | exact ⟨rfl, Below.refl _ _⟩ | exact Below.refl _ _ | exact ⟨trivial, Below.refl _ _⟩)
           simp only [Act.put, List.setIfInBounds_toArray, List.set_cons_zero, List.set_cons_succ])
      first
        | (refine wpRel_pass (by rfl) (fun U => by rfl) ?_; simp only [Act.put, List.setIfInBounds_toArray, List.set_cons_zero, List.set_cons_succ])
        | (refine' wpRel_fix (by rfl) (fun U => by rfl) (fun m U w' hI hG => ?_) ?_
           rotate_left
           focus (have hf := HF.out w' hI; unfold relAt; go_simp; first | exact ⟨rfl, Below.refl _ _⟩ | exact Below.refl _ _ | exact ⟨trivial, Below.refl _ _⟩)
           simp only [Act.put, List.setIfInBounds_toArray, List.set_cons_zero, List.set_cons_succ])
      first
        | (refine wpRel_pass (by rfl) (fun U => by rfl) ?_; simp only [Act.put, List.setIfInBounds_toArray, List.set_cons_zero, List.set_cons_succ])
        | (refine' wpRel_fix (by rfl) (fun U => by rfl) (fun m U w' hI hG => ?_) ?_
           rotate_left
           focus (have hf := HF.out w' hI; unfold relAt; go_simp; first | exact ⟨rfl, Below.refl _ _⟩ | exact Below.refl _ _ | exact ⟨trivial, Below.refl _ _⟩)
           simp only [Act.put, List.setIfInBounds_toArray, List.set_cons_zero, List.set_cons_succ])
      refine' wpRel_fix (by rfl) (fun U => by rfl) (fun m U w' hI hG => ?_) ?_
      rotate_left
      · have hf := HF.out w' hI
        unfold relAt
        go_simp
        clear hf
        exact Calls.mono (HOX.out w' (LLog.belowAll AX.out hI)) fun e w'' h => ⟨h.1, h.2⟩
      simp only [Act.put, List.setIfInBounds_toArray, List.set_cons_zero, List.set_cons_succ]
      first
        | (refine wpRel_pass (by rfl) (fun U => by rfl) ?_; simp only [Act.put, List.setIfInBounds_toArray, List.set_cons_zero, List.set_cons_succ])
        | (refine' wpRel_fix (by rfl) (fun U => by rfl) (fun m U w' hI hG => ?_) ?_
           rotate_left
           focus (have hf := HF.out w' hI; unfold relAt; go_simp; first | exact ⟨rfl, Below.refl _ _⟩ | exact Below.refl _ _ | exact ⟨trivial, Below.refl _ _⟩)
           simp only [Act.put, List.setIfInBounds_toArray, List.set_cons_zero, List.set_cons_succ])
      first
        | (refine wpRel_pass (by rfl) (fun U => by rfl) ?_; simp only [Act.put, List.setIfInBounds_toArray, List.set_cons_zero, List.set_cons_succ])
        | (refine' wpRel_fix (by rfl) (fun U => by rfl) (fun m U w' hI hG => ?_) ?_
           rotate_left
           focus (have hf := HF.out w' hI; unfold relAt; go_simp; first | exact ⟨rfl, Below.refl _ _⟩ | exact Below.refl _ _ | exact ⟨trivial, Below.refl _ _⟩)
           simp only [Act.put, List.setIfInBounds_toArray, List.set_cons_zero, List.set_cons_succ])
      intro U w6 hI hG
      replace hI : Below w5.heap.size w5 w6 := hI
      replace B := Lib.hid (nextB B.out (hI))
      replace AL := Lib.hid (LLog.belowAll AL.out (hI))
      replace BL := Lib.hid (BL.out.keep (hI))
      replace AX := Lib.hid (LLog.belowAll AX.out (hI))
      replace BX := Lib.hid (BX.out.keep (hI))
      go_wp2_with fail
      go_ret
      exact ⟨rfl, B.out⟩
  · have hk0 : ((K : Int) == 0) = false := by simp [hK0]
    have h7 : xf ≤ n := by have := HK'.out; omega
    clear hK0
    by_cases h5 : (xs.length : Int) < 5
    case pos =>
      have HF : Hid (∀ w', Below w5.heap.size w5 w' → w'.cell? ⟨p, 0, none⟩ = some (.int .i64 f) ∧ w'.cell? ⟨p, 1, none⟩ = some (.slice a s.length c) ∧ w'.cell? ⟨q, 0, none⟩ = some (.int .i64 xf) ∧ w'.cell? ⟨q, 1, none⟩ = some (.slice xa xs.length xc)) :=
        Lib.hid (fun w' h => ⟨(BL.out.keep h).2 0 _ rfl, (BL.out.keep h).2 1 _ rfl, (BX.out.keep h).2 0 _ rfl, (BX.out.keep h).2 1 _ rfl⟩)
      refine wp_region_rel 58 (by kernel_rfl) (by kernel_rfl) (by rfl) ?_
      simp only [List.take_succ_cons, List.take_zero, List.drop_succ_cons, List.drop_zero]
      first
        | (refine wpRel_pass (by rfl) (fun U => by rfl) ?_; simp only [Act.put, List.setIfInBounds_toArray, List.set_cons_zero, List.set_cons_succ])
        | (refine' wpRel_fix (by rfl) (fun U => by rfl) (fun m U w' hI hG => ?_) ?_
           rotate_left
           focus (have hf := HF.out w' hI; unfold relAt; go_simp; first | exact ⟨rfl, Below.refl _ _⟩ | exact Below.refl _ _ | exact ⟨trivial, Below.refl _ _⟩)
           simp only [Act.put, List.setIfInBounds_toArray, List.set_cons_zero, List.set_cons_succ])
      first
        | (refine wpRel_pass (by rfl) (fun U => by rfl) ?_; simp only [Act.put, List.setIfInBounds_toArray, List.set_cons_zero, List.set_cons_succ])
        | (refine' wpRel_fix (by rfl) (fun U => by rfl) (fun m U w' hI hG => ?_) ?_
           rotate_left
           focus (have hf := HF.out w' hI; unfold relAt; go_simp; first | exact ⟨rfl, Below.refl _ _⟩ | exact Below.refl _ _ | exact ⟨trivial, Below.refl _ _⟩)
           simp only [Act.put, List.setIfInBounds_toArray, List.set_cons_zero, List.set_cons_succ])
      first
        | (refine wpRel_pass (by rfl) (fun U => by rfl) ?_; simp only [Act.put, List.setIfInBounds_toArray, List.set_cons_zero, List.set_cons_succ])
        | (refine' wpRel_fix (by rfl) (fun U => by rfl) (fun m U w' hI hG => ?_) ?_
           rotate_left
           focus (have hf := HF.out w' hI; unfold relAt; go_simp; first | exact ⟨rfl, Below.refl _ _⟩ | exact Below.refl _ _ | exact ⟨trivial, Below.refl _ _⟩)
           simp only [Act.put, List.setIfInBounds_toArray, List.set_cons_zero, List.set_cons_succ])
      first
        | (refine wpRel_pass (by rfl) (fun U => by rfl) ?_; simp only [Act.put, List.setIfInBounds_toArray, List.set_cons_zero, List.set_cons_succ])
        | (refine' wpRel_fix (by rfl) (fun U => by rfl) (fun m U w' hI hG => ?_) ?_
           rotate_left
           focus (have hf := HF.out w' hI; unfold relAt; go_simp; first | exact ⟨rfl, Below.refl _ _⟩ | exact Below.refl _ _ | exact ⟨trivial, Below.refl _ _⟩)
           simp only [Act.put, List.setIfInBounds_toArray, List.set_cons_zero, List.set_cons_succ])
      first
        | (refine wpRel_pass (by rfl) (fun U => by rfl) ?_; simp only [Act.put, List.setIfInBounds_toArray, List.set_cons_zero, List.set_cons_succ])
        | (refine' wpRel_fix (by rfl) (fun U => by rfl) (fun m U w' hI hG => ?_) ?_
           rotate_left
           focus (have hf := HF.out w' hI; unfold relAt; go_simp; first | exact ⟨rfl, Below.refl _ _⟩ | exact Below.refl _ _ | exact ⟨trivial, Below.refl _ _⟩)
           simp only [Act.put, List.setIfInBounds_toArray, List.set_cons_zero, List.set_cons_succ])
      first
        | (refine wpRel_pass (by rfl) (fun U => by rfl) ?_; simp only [Act.put, List.setIfInBounds_toArray, List.set_cons_zero, List.set_cons_succ])
        | (refine' wpRel_fix (by rfl) (fun U => by rfl) (fun m U w' hI hG => ?_) ?_
           rotate_left
           focus (have hf := HF.out w' hI; unfold relAt; go_simp; first | exact ⟨rfl, Below.refl _ _⟩ | exact Below.refl _ _ | exact ⟨trivial, Below.refl _ _⟩)
           simp only [Act.put, List.setIfInBounds_toArray, List.set_cons_zero, List.set_cons_succ])
      first
        | (refine wpRel_pass (by rfl) (fun U => by rfl) ?_; simp only [Act.put, List.setIfInBounds_toArray, List.set_cons_zero, List.set_cons_succ])
        | (refine' wpRel_fix (by rfl) (fun U => by rfl) (fun m U w' hI hG => ?_) ?_
           rotate_left
           focus (have hf := HF.out w' hI; unfold relAt; go_simp; first | exact ⟨rfl, Below.refl _ _⟩ | exact Below.refl _ _ | exact ⟨trivial, Below.refl _ _⟩)
           simp only [Act.put, List.setIfInBounds_toArray, List.set_cons_zero, List.set_cons_succ])
      first
        | (refine wpRel_pass (by rfl) (fun U => by rfl) ?_; simp only [Act.put, List.setIfInBounds_toArray, List.set_cons_zero, List.set_cons_succ])
        | (refine' wpRel_fix (by rfl) (fun U => by rfl) (fun m U w' hI hG => ?_) ?_
           rotate_left
           focus (have hf := HF.out w' hI; unfold relAt; go_simp; first | exact ⟨rfl, Below.refl _ _⟩ | exact Below.refl _ _ | exact ⟨trivial, Below.refl _ _⟩)
           simp only [Act.put, List.setIfInBounds_toArray, List.set_cons_zero, List.set_cons_succ])
      first
        | (refine wpRel_pass (by rfl) (fun U => by rfl) ?_; simp only [Act.put, List.setIfInBounds_toArray, List.set_cons_zero, List.set_cons_succ])
        | (refine' wpRel_fix (by rfl) (fun U => by rfl) (fun m U w' hI hG => ?_) ?_
           rotate_left
           focus (have hf := HF.out w' hI; unfold relAt; go_simp; first | exact ⟨rfl, Below.refl _ _⟩ | exact Below.refl _ _ | exact ⟨trivial, Below.refl _ _⟩)
           simp only [Act.put, List.setIfInBounds_toArray, List.set_cons_zero, List.set_cons_succ])
      first
        | (refine wpRel_pass (by rfl) (fun U => by rfl) ?_; simp only [Act.put, List.setIfInBounds_toArray, List.set_cons_zero, List.set_cons_succ])
        | (refine' wpRel_fix (by rfl) (fun U => by rfl) (fun m U w' hI hG => ?_) ?_
           rotate_left
           focus (have hf := HF.out w' hI; unfold relAt; go_simp; first | exact ⟨rfl, Below.refl _ _⟩ | exact Below.refl _ _ | exact ⟨trivial, Below.refl _ _⟩)
           simp only [Act.put, List.setIfInBounds_toArray, List.set_cons_zero, List.set_cons_succ])
      first
        | (refine wpRel_pass (by rfl) (fun U => by rfl) ?_; simp only [Act.put, List.setIfInBounds_toArray, List.set_cons_zero, List.set_cons_succ])
        | (refine' wpRel_fix (by rfl) (fun U => by rfl) (fun m U w' hI hG => ?_) ?_
           rotate_left
           focus (have hf := HF.out w' hI; unfold relAt; go_simp; first | exact ⟨rfl, Below.refl _ _⟩ | exact Below.refl _ _ | exact ⟨trivial, Below.refl _ _⟩)
           simp only [Act.put, List.setIfInBounds_toArray, List.set_cons_zero, List.set_cons_succ])
      first
        | (refine wpRel_pass (by rfl) (fun U => by rfl) ?_; simp only [Act.put, List.setIfInBounds_toArray, List.set_cons_zero, List.set_cons_succ])
        | (refine' wpRel_fix (by rfl) (fun U => by rfl) (fun m U w' hI hG => ?_) ?_
           rotate_left
           focus (have hf := HF.out w' hI; unfold relAt; go_simp; first | exact ⟨rfl, Below.refl _ _⟩ | exact Below.refl _ _ | exact ⟨trivial, Below.refl _ _⟩)
           simp only [Act.put, List.setIfInBounds_toArray, List.set_cons_zero, List.set_cons_succ])
      first
        | (refine wpRel_pass (by rfl) (fun U => by rfl) ?_; simp only [Act.put, List.setIfInBounds_toArray, List.set_cons_zero, List.set_cons_succ])
        | (refine' wpRel_fix (by rfl) (fun U => by rfl) (fun m U w' hI hG => ?_) ?_
           rotate_left
           focus (have hf := HF.out w' hI; unfold relAt; go_simp; first | exact ⟨rfl, Below.refl _ _⟩ | exact Below.refl _ _ | exact ⟨trivial, Below.refl _ _⟩)
           simp only [Act.put, List.setIfInBounds_toArray, List.set_cons_zero, List.set_cons_succ])
      first
        | (refine wpRel_pass (by rfl) (fun U => by rfl) ?_; simp only [Act.put, List.setIfInBounds_toArray, List.set_cons_zero, List.set_cons_succ])
        | (refine' wpRel_fix (by rfl) (fun U => by rfl) (fun m U w' hI hG => ?_) ?_
           rotate_left
           focus (have hf := HF.out w' hI; unfold relAt; go_simp; first | exact ⟨rfl, Below.refl _ _⟩ | exact Below.refl _ _ | exact ⟨trivial, Below.refl _ _⟩)
           simp only [Act.put, List.setIfInBounds_toArray, List.set_cons_zero, List.set_cons_succ])
      first
        | (refine wpRel_pass (by rfl) (fun U => by rfl) ?_; simp only [Act.put, List.setIfInBounds_toArray, List.set_cons_zero, List.set_cons_succ])
        | (refine' wpRel_fix (by rfl) (fun U => by rfl) (fun m U w' hI hG => ?_) ?_
           rotate_left
           focus (have hf := HF.out w' hI; unfold relAt; go_simp; first | exact ⟨rfl, Below.refl _ _⟩ | exact Below.refl _ _ | exact ⟨trivial, Below.refl _ _⟩)
           simp only [Act.put, List.setIfInBounds_toArray, List.set_cons_zero, List.set_cons_succ])
      first
        | (refine wpRel_pass (by rfl) (fun U => by rfl) ?_; simp only [Act.put, List.setIfInBounds_toArray, List.set_cons_zero, List.set_cons_succ])
        | (refine' wpRel_fix (by rfl) (fun U => by rfl) (fun m U w' hI hG => ?_) ?_
           rotate_left
           focus (have hf := HF.out w' hI; unfold relAt; go_simp; first | exact ⟨rfl, Below.refl _ _⟩ | exact Below.refl _ _ | exact ⟨trivial, Below.refl _ _⟩)
           simp only [Act.put, List.setIfInBounds_toArray, List.set_cons_zero, List.set_cons_succ])
      first
        | (refine wpRel_pass (by rfl) (fun U => by rfl) ?_; simp only [Act.put, List.setIfInBounds_toArray, List.set_cons_zero, List.set_cons_succ])
        | (refine' wpRel_fix (by rfl) (fun U => by rfl) (fun m U w' hI hG => ?_) ?_
           rotate_left
           focus (have hf := HF.out w' hI; unfold relAt; go_simp; first | exact ⟨rfl, Below.refl _ _⟩ | exact Below.refl _ _ | exact ⟨trivial, Below.refl _ _⟩)
           simp only [Act.put, List.setIfInBounds_toArray, List.set_cons_zero, List.set_cons_succ])
      first
        | (refine wpRel_pass (by rfl) (fun U => by rfl) ?_; simp only [Act.put, List.setIfInBounds_toArray, List.set_cons_zero, List.set_cons_succ])
        | (refine' wpRel_fix (by rfl) (fun U => by rfl) (fun m U w' hI hG => ?_) ?_
           rotate_left
           focus (have hf := HF.out w' hI; unfold relAt; go_simp; first | exact ⟨rfl, Below.refl _ _⟩ | exact Below.refl _ _ | exact ⟨trivial, Below.refl _ _⟩)
           simp only [Act.put, List.setIfInBounds_toArray, List.set_cons_zero, List.set_cons_succ])
      first
        | (refine wpRel_pass (by rfl) (fun U => by rfl) ?_; simp only [Act.put, List.setIfInBounds_toArray, List.set_cons_zero, List.set_cons_succ])
        | (refine' wpRel_fix (by rfl) (fun U => by rfl) (fun m U w' hI hG => ?_) ?_
           rotate_left
           focus (have hf := HF.out w' hI; unfold relAt; go_simp; first | exact ⟨rfl, Below.refl _ _⟩ | exact Below.refl _ _ | exact ⟨trivial, Below.refl _ _⟩)
           simp only [Act.put, List.setIfInBounds_toArray, List.set_cons_zero, List.set_cons_succ])
      first
        | (refine wpRel_pass (by rfl) (fun U => by rfl) ?_; simp only [Act.put, List.setIfInBounds_toArray, List.set_cons_zero, List.set_cons_succ])
        | (refine' wpRel_fix (by rfl) (fun U => by rfl) (fun m U w' hI hG => ?_) ?_
           rotate_left
           focus (have hf := HF.out w' hI; unfold relAt; go_simp; first | exact ⟨rfl, Below.refl _ _⟩ | exact Below.refl _ _ | exact ⟨trivial, Below.refl _ _⟩)
           simp only [Act.put, List.setIfInBounds_toArray, List.set_cons_zero, List.set_cons_succ])
      refine wpRel_rel (RecsR ((s.drop K).map LRec.er)) rfl (RecsR.stable _) (by rfl) (fun U => by rfl) (fun m U w' hI hG => ?_) ?_
      · have hf := HF.out w' hI
        have HDA := Lib.hid (LLog.belowAll AL.out hI)
        have hla := HDA.out.lenCap
        simp only at hla
        by_cases hcq : c = K
        · have hlq : s.length = K := by omega
          have HLQ := Lib.hid hlq
          clear hlq hla
          subst hcq
          unfold relAt
          go_simp
          clear hf
          exact ⟨⟨⟨a, 0, []⟩, by simp [Loc.val, HLQ.out], by simp [← HLQ.out], ⟨Nat.le_refl _, Nat.zero_le _, by simp, by simp, by simp⟩⟩, Below.refl _ _⟩
        · have hcp : ¬ (c : Int) = (K : Int) := by omega
          have hpc : K < c := by omega
          have hpd : K ≤ c := by omega
          by_cases hs0 : s.length = 0
          · have hp0 : K = 0 := by omega
            obtain rfl : s = [] := List.eq_nil_of_length_eq_zero hs0
            subst hp0
            unfold relAt
            go_simp
            clear hf
            exact ⟨⟨⟨a, c, []⟩, rfl, rfl, HDA.out⟩, Below.refl _ _⟩
          · obtain ⟨ba, bo, hba⟩ := HDA.out.place (show 0 < s.length by omega)
            simp only at hba
            subst hba
            have HKS := Lib.hid (show K ≤ s.length by omega)
            unfold relAt
            go_simp
            clear hf
            exact ⟨⟨⟨some ⟨ba, bo + K * 5, none⟩, c - K, s.drop K⟩, by simp [Loc.val], by simp, drop_At HDA.out rfl HKS.out⟩, Below.refl _ _⟩
      simp only [Act.put, List.setIfInBounds_toArray, List.set_cons_zero, List.set_cons_succ]
      refine' wpRel_fix (by rfl) (fun U => by rfl) (fun m U w' hI hG => ?_) ?_
      rotate_left
      · obtain ⟨y, hv, hy, hA⟩ := hG _ (List.Mem.head _) (by rfl)
        simp only at hv
        have hf := HF.out w' hI
        unfold relAt
        simp only [hv]
        go_simp
        clear hf
        exact Calls.mono (lvRecs_yes ⟨xa, xc, xs⟩ y w' (LLog.belowAll AX.out hI) hA (K3.out.trans hy.symm)) fun e w'' h => ⟨h.1, h.2⟩
      simp only [Act.put, List.setIfInBounds_toArray, List.set_cons_zero, List.set_cons_succ]
      first
        | (refine wpRel_pass (by rfl) (fun U => by rfl) ?_; simp only [Act.put, List.setIfInBounds_toArray, List.set_cons_zero, List.set_cons_succ])
        | (refine' wpRel_fix (by rfl) (fun U => by rfl) (fun m U w' hI hG => ?_) ?_
           rotate_left
           focus (have hf := HF.out w' hI; unfold relAt; go_simp; first | exact ⟨rfl, Below.refl _ _⟩ | exact Below.refl _ _ | exact ⟨trivial, Below.refl _ _⟩)
           simp only [Act.put, List.setIfInBounds_toArray, List.set_cons_zero, List.set_cons_succ])
      first
        | (refine wpRel_pass (by rfl) (fun U => by rfl) ?_; simp only [Act.put, List.setIfInBounds_toArray, List.set_cons_zero, List.set_cons_succ])
        | (refine' wpRel_fix (by rfl) (fun U => by rfl) (fun m U w' hI hG => ?_) ?_
           rotate_left
           focus (have hf := HF.out w' hI; unfold relAt; go_simp; first | exact ⟨rfl, Below.refl _ _⟩ | exact Below.refl _ _ | exact ⟨trivial, Below.refl _ _⟩)
           simp only [Act.put, List.setIfInBounds_toArray, List.set_cons_zero, List.set_cons_succ])
      first
        | (refine wpRel_pass (by rfl) (fun U => by rfl) ?_; simp only [Act.put, List.setIfInBounds_toArray, List.set_cons_zero, List.set_cons_succ])
        | (refine' wpRel_fix (by rfl) (fun U => by rfl) (fun m U w' hI hG => ?_) ?_
           rotate_left
           focus (have hf := HF.out w' hI; unfold relAt; go_simp; first | exact ⟨rfl, Below.refl _ _⟩ | exact Below.refl _ _ | exact ⟨trivial, Below.refl _ _⟩)
           simp only [Act.put, List.setIfInBounds_toArray, List.set_cons_zero, List.set_cons_succ])
      refine' wpRel_fix (by rfl) (fun U => by rfl) (fun m U w' hI hG => ?_) ?_
      rotate_left
      · have hf := HF.out w' hI
        unfold relAt
        go_simp
        clear hf
        exact Calls.mono (HIX.out w' (LLog.belowAll AX.out hI)) fun e w'' h => ⟨h.1, h.2⟩
      simp only [Act.put, List.setIfInBounds_toArray, List.set_cons_zero, List.set_cons_succ]
      first
        | (refine wpRel_pass (by rfl) (fun U => by rfl) ?_; simp only [Act.put, List.setIfInBounds_toArray, List.set_cons_zero, List.set_cons_succ])
        | (refine' wpRel_fix (by rfl) (fun U => by rfl) (fun m U w' hI hG => ?_) ?_
           rotate_left
           focus (have hf := HF.out w' hI; unfold relAt; go_simp; first | exact ⟨rfl, Below.refl _ _⟩ | exact Below.refl _ _ | exact ⟨trivial, Below.refl _ _⟩)
           simp only [Act.put, List.setIfInBounds_toArray, List.set_cons_zero, List.set_cons_succ])
      refine' wpRel_fix (by rfl) (fun U => by rfl) (fun m U w' hI hG => ?_) ?_
      rotate_left
      · have hf := HF.out w' hI
        unfold relAt
        go_simp
        clear hf
        exact Calls.mono (HIE.out w' (LLog.belowAll AL.out hI)) fun e w'' h => ⟨h.1, h.2⟩
      simp only [Act.put, List.setIfInBounds_toArray, List.set_cons_zero, List.set_cons_succ]
      first
        | (refine wpRel_pass (by rfl) (fun U => by rfl) ?_; simp only [Act.put, List.setIfInBounds_toArray, List.set_cons_zero, List.set_cons_succ])
        | (refine' wpRel_fix (by rfl) (fun U => by rfl) (fun m U w' hI hG => ?_) ?_
           rotate_left
           focus (have hf := HF.out w' hI; unfold relAt; go_simp; first | exact ⟨rfl, Below.refl _ _⟩ | exact Below.refl _ _ | exact ⟨trivial, Below.refl _ _⟩)
           simp only [Act.put, List.setIfInBounds_toArray, List.set_cons_zero, List.set_cons_succ])
      first
        | (refine wpRel_pass (by rfl) (fun U => by rfl) ?_; simp only [Act.put, List.setIfInBounds_toArray, List.set_cons_zero, List.set_cons_succ])
        | (refine' wpRel_fix (by rfl) (fun U => by rfl) (fun m U w' hI hG => ?_) ?_
           rotate_left
           focus (have hf := HF.out w' hI; unfold relAt; go_simp; first | exact ⟨rfl, Below.refl _ _⟩ | exact Below.refl _ _ | exact ⟨trivial, Below.refl _ _⟩)
           simp only [Act.put, List.setIfInBounds_toArray, List.set_cons_zero, List.set_cons_succ])
      first
        | (refine wpRel_pass (by rfl) (fun U => by rfl) ?_; simp only [Act.put, List.setIfInBounds_toArray, List.set_cons_zero, List.set_cons_succ])
        | (refine' wpRel_fix (by rfl) (fun U => by rfl) (fun m U w' hI hG => ?_) ?_
           rotate_left
           focus (have hf := HF.out w' hI; unfold relAt; go_simp; first | exact ⟨rfl, Below.refl _ _⟩ | exact Below.refl _ _ | exact ⟨trivial, Below.refl _ _⟩)
           simp only [Act.put, List.setIfInBounds_toArray, List.set_cons_zero, List.set_cons_succ])
      first
        | (refine wpRel_pass (by rfl) (fun U => by rfl) ?_; simp only [Act.put, List.setIfInBounds_toArray, List.set_cons_zero, List.set_cons_succ])
        | (refine' wpRel_fix (by rfl) (fun U => by rfl) (fun m U w' hI hG => ?_) ?_
           rotate_left
           focus (have hf := HF.out w' hI; unfold relAt; go_simp; first | exact ⟨rfl, Below.refl _ _⟩ | exact Below.refl _ _ | exact ⟨trivial, Below.refl _ _⟩)
           simp only [Act.put, List.setIfInBounds_toArray, List.set_cons_zero, List.set_cons_succ])
      first
        | (refine wpRel_pass (by rfl) (fun U => by rfl) ?_; simp only [Act.put, List.setIfInBounds_toArray, List.set_cons_zero, List.set_cons_succ])
        | (refine' wpRel_fix (by rfl) (fun U => by rfl) (fun m U w' hI hG => ?_) ?_
           rotate_left
           focus (have hf := HF.out w' hI; unfold relAt; go_simp; first | exact ⟨rfl, Below.refl _ _⟩ | exact Below.refl _ _ | exact ⟨trivial, Below.refl _ _⟩)
           simp only [Act.put, List.setIfInBounds_toArray, List.set_cons_zero, List.set_cons_succ])
      first
        | (refine wpRel_pass (by rfl) (fun U => by rfl) ?_; simp only [Act.put, List.setIfInBounds_toArray, List.set_cons_zero, List.set_cons_succ])
        | (refine' wpRel_fix (by rfl) (fun U => by rfl) (fun m U w' hI hG => ?_) ?_
           rotate_left
           focus (have hf := HF.out w' hI; unfold relAt; go_simp; first | exact ⟨rfl, Below.refl _ _⟩ | exact Below.refl _ _ | exact ⟨trivial, Below.refl _ _⟩)
           simp only [Act.put, List.setIfInBounds_toArray, List.set_cons_zero, List.set_cons_succ])
      first
        | (refine wpRel_pass (by rfl) (fun U => by rfl) ?_; simp only [Act.put, List.setIfInBounds_toArray, List.set_cons_zero, List.set_cons_succ])
        | (refine' wpRel_fix (by rfl) (fun U => by rfl) (fun m U w' hI hG => ?_) ?_
           rotate_left
           focus (have hf := HF.out w' hI; unfold relAt; go_simp; first | exact ⟨rfl, Below.refl _ _⟩ | exact Below.refl _ _ | exact ⟨trivial, Below.refl _ _⟩)
           simp only [Act.put, List.setIfInBounds_toArray, List.set_cons_zero, List.set_cons_succ])
      first
        | (refine wpRel_pass (by rfl) (fun U => by rfl) ?_; simp only [Act.put, List.setIfInBounds_toArray, List.set_cons_zero, List.set_cons_succ])
        | (refine' wpRel_fix (by rfl) (fun U => by rfl) (fun m U w' hI hG => ?_) ?_
           rotate_left
           focus (have hf := HF.out w' hI; unfold relAt; go_simp; first | exact ⟨rfl, Below.refl _ _⟩ | exact Below.refl _ _ | exact ⟨trivial, Below.refl _ _⟩)
           simp only [Act.put, List.setIfInBounds_toArray, List.set_cons_zero, List.set_cons_succ])
      first
        | (refine wpRel_pass (by rfl) (fun U => by rfl) ?_; simp only [Act.put, List.setIfInBounds_toArray, List.set_cons_zero, List.set_cons_succ])
        | (refine' wpRel_fix (by rfl) (fun U => by rfl) (fun m U w' hI hG => ?_) ?_
           rotate_left
           focus (have hf := HF.out w' hI; unfold relAt; go_simp; first | exact ⟨rfl, Below.refl _ _⟩ | exact Below.refl _ _ | exact ⟨trivial, Below.refl _ _⟩)
           simp only [Act.put, List.setIfInBounds_toArray, List.set_cons_zero, List.set_cons_succ])
      first
        | (refine wpRel_pass (by rfl) (fun U => by rfl) ?_; simp only [Act.put, List.setIfInBounds_toArray, List.set_cons_zero, List.set_cons_succ])
        | (refine' wpRel_fix (by rfl) (fun U => by rfl) (fun m U w' hI hG => ?_) ?_
           rotate_left
           focus (have hf := HF.out w' hI; unfold relAt; go_simp; first | exact ⟨rfl, Below.refl _ _⟩ | exact Below.refl _ _ | exact ⟨trivial, Below.refl _ _⟩)
           simp only [Act.put, List.setIfInBounds_toArray, List.set_cons_zero, List.set_cons_succ])
      first
        | (refine wpRel_pass (by rfl) (fun U => by rfl) ?_; simp only [Act.put, List.setIfInBounds_toArray, List.set_cons_zero, List.set_cons_succ])
        | (refine' wpRel_fix (by rfl) (fun U => by rfl) (fun m U w' hI hG => ?_) ?_
           rotate_left
           focus (have hf := HF.out w' hI; unfold relAt; go_simp; first | exact ⟨rfl, Below.refl _ _⟩ | exact Below.refl _ _ | exact ⟨trivial, Below.refl _ _⟩)
           simp only [Act.put, List.setIfInBounds_toArray, List.set_cons_zero, List.set_cons_succ])
      first
        | (refine wpRel_pass (by rfl) (fun U => by rfl) ?_; simp only [Act.put, List.setIfInBounds_toArray, List.set_cons_zero, List.set_cons_succ])
        | (refine' wpRel_fix (by rfl) (fun U => by rfl) (fun m U w' hI hG => ?_) ?_
           rotate_left
           focus (have hf := HF.out w' hI; unfold relAt; go_simp; first | exact ⟨rfl, Below.refl _ _⟩ | exact Below.refl _ _ | exact ⟨trivial, Below.refl _ _⟩)
           simp only [Act.put, List.setIfInBounds_toArray, List.set_cons_zero, List.set_cons_succ])
      first
        | (refine wpRel_pass (by rfl) (fun U => by rfl) ?_; simp only [Act.put, List.setIfInBounds_toArray, List.set_cons_zero, List.set_cons_succ])
        | (refine' wpRel_fix (by rfl) (fun U => by rfl) (fun m U w' hI hG => ?_) ?_
           rotate_left
           focus (have hf := HF.out w' hI; unfold relAt; go_simp; first | exact ⟨rfl, Below.refl _ _⟩ | exact Below.refl _ _ | exact ⟨trivial, Below.refl _ _⟩)
           simp only [Act.put, List.setIfInBounds_toArray, List.set_cons_zero, List.set_cons_succ])
      first
        | (refine wpRel_pass (by rfl) (fun U => by rfl) ?_; simp only [Act.put, List.setIfInBounds_toArray, List.set_cons_zero, List.set_cons_succ])
        | (refine' wpRel_fix (by rfl) (fun U => by rfl) (fun m U w' hI hG => ?_) ?_
           rotate_left
           focus (have hf := HF.out w' hI; unfold relAt; go_simp; first | exact ⟨rfl, Below.refl _ _⟩ | exact Below.refl _ _ | exact ⟨trivial, Below.refl _ _⟩)
           simp only [Act.put, List.setIfInBounds_toArray, List.set_cons_zero, List.set_cons_succ])
      first
        | (refine wpRel_pass (by rfl) (fun U => by rfl) ?_; simp only [Act.put, List.setIfInBounds_toArray, List.set_cons_zero, List.set_cons_succ])
        | (refine' wpRel_fix (by rfl) (fun U => by rfl) (fun m U w' hI hG => ?_) ?_
           rotate_left
           focus (have hf := HF.out w' hI; unfold relAt; go_simp; first | exact ⟨rfl, Below.refl _ _⟩ | exact Below.refl _ _ | exact ⟨trivial, Below.refl _ _⟩)
           simp only [Act.put, List.setIfInBounds_toArray, List.set_cons_zero, List.set_cons_succ])
      first
        | (refine wpRel_pass (by rfl) (fun U => by rfl) ?_; simp only [Act.put, List.setIfInBounds_toArray, List.set_cons_zero, List.set_cons_succ])
        | (refine' wpRel_fix (by rfl) (fun U => by rfl) (fun m U w' hI hG => ?_) ?_
           rotate_left
           focus (have hf := HF.out w' hI; unfold relAt; go_simp; first | exact ⟨rfl, Below.refl _ _⟩ | exact Below.refl _ _ | exact ⟨trivial, Below.refl _ _⟩)
           simp only [Act.put, List.setIfInBounds_toArray, List.set_cons_zero, List.set_cons_succ])
      first
        | (refine wpRel_pass (by rfl) (fun U => by rfl) ?_; simp only [Act.put, List.setIfInBounds_toArray, List.set_cons_zero, List.set_cons_succ])
        | (refine' wpRel_fix (by rfl) (fun U => by rfl) (fun m U w' hI hG => ?_) ?_
           rotate_left
           focus (have hf := HF.out w' hI; unfold relAt; go_simp; first | exact ⟨rfl, Below.refl _ _⟩ | exact Below.refl _ _ | exact ⟨trivial, Below.refl _ _⟩)
           simp only [Act.put, List.setIfInBounds_toArray, List.set_cons_zero, List.set_cons_succ])
      first
        | (refine wpRel_pass (by rfl) (fun U => by rfl) ?_; simp only [Act.put, List.setIfInBounds_toArray, List.set_cons_zero, List.set_cons_succ])
        | (refine' wpRel_fix (by rfl) (fun U => by rfl) (fun m U w' hI hG => ?_) ?_
           rotate_left
           focus (have hf := HF.out w' hI; unfold relAt; go_simp; first | exact ⟨rfl, Below.refl _ _⟩ | exact Below.refl _ _ | exact ⟨trivial, Below.refl _ _⟩)
           simp only [Act.put, List.setIfInBounds_toArray, List.set_cons_zero, List.set_cons_succ])
      first
        | (refine wpRel_pass (by rfl) (fun U => by rfl) ?_; simp only [Act.put, List.setIfInBounds_toArray, List.set_cons_zero, List.set_cons_succ])
        | (refine' wpRel_fix (by rfl) (fun U => by rfl) (fun m U w' hI hG => ?_) ?_
           rotate_left
           focus (have hf := HF.out w' hI; unfold relAt; go_simp; first | exact ⟨rfl, Below.refl _ _⟩ | exact Below.refl _ _ | exact ⟨trivial, Below.refl _ _⟩)
           simp only [Act.put, List.setIfInBounds_toArray, List.set_cons_zero, List.set_cons_succ])
      first
        | (refine wpRel_pass (by rfl) (fun U => by rfl) ?_; simp only [Act.put, List.setIfInBounds_toArray, List.set_cons_zero, List.set_cons_succ])
        | (refine' wpRel_fix (by rfl) (fun U => by rfl) (fun m U w' hI hG => ?_) ?_
           rotate_left
           focus (have hf := HF.out w' hI; unfold relAt; go_simp; first | exact ⟨rfl, Below.refl _ _⟩ | exact Below.refl _ _ | exact ⟨trivial, Below.refl _ _⟩)
           simp only [Act.put, List.setIfInBounds_toArray, List.set_cons_zero, List.set_cons_succ])
      first
        | (refine wpRel_pass (by rfl) (fun U => by rfl) ?_; simp only [Act.put, List.setIfInBounds_toArray, List.set_cons_zero, List.set_cons_succ])
        | (refine' wpRel_fix (by rfl) (fun U => by rfl) (fun m U w' hI hG => ?_) ?_
           rotate_left
           focus (have hf := HF.out w' hI; unfold relAt; go_simp; first | exact ⟨rfl, Below.refl _ _⟩ | exact Below.refl _ _ | exact ⟨trivial, Below.refl _ _⟩)
           simp only [Act.put, List.setIfInBounds_toArray, List.set_cons_zero, List.set_cons_succ])
      first
        | (refine wpRel_pass (by rfl) (fun U => by rfl) ?_; simp only [Act.put, List.setIfInBounds_toArray, List.set_cons_zero, List.set_cons_succ])
        | (refine' wpRel_fix (by rfl) (fun U => by rfl) (fun m U w' hI hG => ?_) ?_
           rotate_left
           focus (have hf := HF.out w' hI; unfold relAt; go_simp; first | exact ⟨rfl, Below.refl _ _⟩ | exact Below.refl _ _ | exact ⟨trivial, Below.refl _ _⟩)
           simp only [Act.put, List.setIfInBounds_toArray, List.set_cons_zero, List.set_cons_succ])
      first
        | (refine wpRel_pass (by rfl) (fun U => by rfl) ?_; simp only [Act.put, List.setIfInBounds_toArray, List.set_cons_zero, List.set_cons_succ])
        | (refine' wpRel_fix (by rfl) (fun U => by rfl) (fun m U w' hI hG => ?_) ?_
           rotate_left
           focus (have hf := HF.out w' hI; unfold relAt; go_simp; first | exact ⟨rfl, Below.refl _ _⟩ | exact Below.refl _ _ | exact ⟨trivial, Below.refl _ _⟩)
           simp only [Act.put, List.setIfInBounds_toArray, List.set_cons_zero, List.set_cons_succ])
      first
        | (refine wpRel_pass (by rfl) (fun U => by rfl) ?_; simp only [Act.put, List.setIfInBounds_toArray, List.set_cons_zero, List.set_cons_succ])
        | (refine' wpRel_fix (by rfl) (fun U => by rfl) (fun m U w' hI hG => ?_) ?_
           rotate_left
           focus (have hf := HF.out w' hI; unfold relAt; go_simp; first | exact ⟨rfl, Below.refl _ _⟩ | exact Below.refl _ _ | exact ⟨trivial, Below.refl _ _⟩)
           simp only [Act.put, List.setIfInBounds_toArray, List.set_cons_zero, List.set_cons_succ])
      first
        | (refine wpRel_pass (by rfl) (fun U => by rfl) ?_; simp only [Act.put, List.setIfInBounds_toArray, List.set_cons_zero, List.set_cons_succ])
        | (refine' wpRel_fix (by rfl) (fun U => by rfl) (fun m U w' hI hG => ?_) ?_
           rotate_left
           focus (have hf := HF.out w' hI; unfold relAt; go_simp; first | exact ⟨rfl, Below.refl _ _⟩ | exact Below.refl _ _ | exact ⟨trivial, Below.refl _ _⟩)
           simp only [Act.put, List.setIfInBounds_toArray, List.set_cons_zero, List.set_cons_succ])
      first
        | (refine wpRel_pass (by rfl) (fun U => by rfl) ?_; simp only [Act.put, List.setIfInBounds_toArray, List.set_cons_zero, List.set_cons_succ])
        | (refine' wpRel_fix (by rfl) (fun U => by rfl) (fun m U w' hI hG => ?_) ?_
           rotate_left
           focus (have hf := HF.out w' hI; unfold relAt; go_simp; first | exact ⟨rfl, Below.refl _ _⟩ | exact Below.refl _ _ | exact ⟨trivial, Below.refl _ _⟩)
           simp only [Act.put, List.setIfInBounds_toArray, List.set_cons_zero, List.set_cons_succ])
      first
        | (refine wpRel_pass (by rfl) (fun U => by rfl) ?_; simp only [Act.put, List.setIfInBounds_toArray, List.set_cons_zero, List.set_cons_succ])
        | (refine' wpRel_fix (by rfl) (fun U => by rfl) (fun m U w' hI hG => ?_) ?_
           rotate_left
           focus (have hf := HF.out w' hI; unfold relAt; go_simp; first | exact ⟨rfl, Below.refl _ _⟩ | exact Below.refl _ _ | exact ⟨trivial, Below.refl _ _⟩)
           simp only [Act.put, List.setIfInBounds_toArray, List.set_cons_zero, List.set_cons_succ])
      refine' wpRel_fix (by rfl) (fun U => by rfl) (fun m U w' hI hG => ?_) ?_
      rotate_left
      · have hf := HF.out w' hI
        unfold relAt
        go_simp
        clear hf
        exact Calls.mono (HOX.out w' (LLog.belowAll AX.out hI)) fun e w'' h => ⟨h.1, h.2⟩
      simp only [Act.put, List.setIfInBounds_toArray, List.set_cons_zero, List.set_cons_succ]
      first
        | (refine wpRel_pass (by rfl) (fun U => by rfl) ?_; simp only [Act.put, List.setIfInBounds_toArray, List.set_cons_zero, List.set_cons_succ])
        | (refine' wpRel_fix (by rfl) (fun U => by rfl) (fun m U w' hI hG => ?_) ?_
           rotate_left
           focus (have hf := HF.out w' hI; unfold relAt; go_simp; first | exact ⟨rfl, Below.refl _ _⟩ | exact Below.refl _ _ | exact ⟨trivial, Below.refl _ _⟩)
           simp only [Act.put, List.setIfInBounds_toArray, List.set_cons_zero, List.set_cons_succ])
      first
        | (refine wpRel_pass (by rfl) (fun U => by rfl) ?_; simp only [Act.put, List.setIfInBounds_toArray, List.set_cons_zero, List.set_cons_succ])
        | (refine' wpRel_fix (by rfl) (fun U => by rfl) (fun m U w' hI hG => ?_) ?_
           rotate_left
           focus (have hf := HF.out w' hI; unfold relAt; go_simp; first | exact ⟨rfl, Below.refl _ _⟩ | exact Below.refl _ _ | exact ⟨trivial, Below.refl _ _⟩)
           simp only [Act.put, List.setIfInBounds_toArray, List.set_cons_zero, List.set_cons_succ])
      intro U w6 hI hG
      replace hI : Below w5.heap.size w5 w6 := hI
      replace B := Lib.hid (nextB B.out (hI))
      replace AL := Lib.hid (LLog.belowAll AL.out (hI))
      replace BL := Lib.hid (BL.out.keep (hI))
      replace AX := Lib.hid (LLog.belowAll AX.out (hI))
      replace BX := Lib.hid (BX.out.keep (hI))
      go_wp2_with fail
      go_ret
      exact ⟨rfl, B.out⟩
    · have h6 : n < xf + 5 := by have := HK6.out; omega
      have HF : Hid (∀ w', Below w5.heap.size w5 w' → w'.cell? ⟨p, 0, none⟩ = some (.int .i64 f) ∧ w'.cell? ⟨p, 1, none⟩ = some (.slice a s.length c) ∧ w'.cell? ⟨q, 0, none⟩ = some (.int .i64 xf) ∧ w'.cell? ⟨q, 1, none⟩ = some (.slice xa xs.length xc)) :=
        Lib.hid (fun w' h => ⟨(BL.out.keep h).2 0 _ rfl, (BL.out.keep h).2 1 _ rfl, (BX.out.keep h).2 0 _ rfl, (BX.out.keep h).2 1 _ rfl⟩)
      refine wp_region_rel 58 (by kernel_rfl) (by kernel_rfl) (by rfl) ?_
      simp only [List.take_succ_cons, List.take_zero, List.drop_succ_cons, List.drop_zero]
      first
        | (refine wpRel_pass (by rfl) (fun U => by rfl) ?_; simp only [Act.put, List.setIfInBounds_toArray, List.set_cons_zero, List.set_cons_succ])
        | (refine' wpRel_fix (by rfl) (fun U => by rfl) (fun m U w' hI hG => ?_) ?_
           rotate_left
           focus (have hf := HF.out w' hI; unfold relAt; go_simp; first | exact ⟨rfl, Below.refl _ _⟩ | exact Below.refl _ _ | exact ⟨trivial, Below.refl _ _⟩)
           simp only [Act.put, List.setIfInBounds_toArray, List.set_cons_zero, List.set_cons_succ])
      first
        | (refine wpRel_pass (by rfl) (fun U => by rfl) ?_; simp only [Act.put, List.setIfInBounds_toArray, List.set_cons_zero, List.set_cons_succ])
        | (refine' wpRel_fix (by rfl) (fun U => by rfl) (fun m U w' hI hG => ?_) ?_
           rotate_left
           focus (have hf := HF.out w' hI; unfold relAt; go_simp; first | exact ⟨rfl, Below.refl _ _⟩ | exact Below.refl _ _ | exact ⟨trivial, Below.refl _ _⟩)
           simp only [Act.put, List.setIfInBounds_toArray, List.set_cons_zero, List.set_cons_succ])
      first
        | (refine wpRel_pass (by rfl) (fun U => by rfl) ?_; simp only [Act.put, List.setIfInBounds_toArray, List.set_cons_zero, List.set_cons_succ])
        | (refine' wpRel_fix (by rfl) (fun U => by rfl) (fun m U w' hI hG => ?_) ?_
           rotate_left
           focus (have hf := HF.out w' hI; unfold relAt; go_simp; first | exact ⟨rfl, Below.refl _ _⟩ | exact Below.refl _ _ | exact ⟨trivial, Below.refl _ _⟩)
           simp only [Act.put, List.setIfInBounds_toArray, List.set_cons_zero, List.set_cons_succ])
      first
        | (refine wpRel_pass (by rfl) (fun U => by rfl) ?_; simp only [Act.put, List.setIfInBounds_toArray, List.set_cons_zero, List.set_cons_succ])
        | (refine' wpRel_fix (by rfl) (fun U => by rfl) (fun m U w' hI hG => ?_) ?_
           rotate_left
           focus (have hf := HF.out w' hI; unfold relAt; go_simp; first | exact ⟨rfl, Below.refl _ _⟩ | exact Below.refl _ _ | exact ⟨trivial, Below.refl _ _⟩)
           simp only [Act.put, List.setIfInBounds_toArray, List.set_cons_zero, List.set_cons_succ])
      first
        | (refine wpRel_pass (by rfl) (fun U => by rfl) ?_; simp only [Act.put, List.setIfInBounds_toArray, List.set_cons_zero, List.set_cons_succ])
        | (refine' wpRel_fix (by rfl) (fun U => by rfl) (fun m U w' hI hG => ?_) ?_
           rotate_left
           focus (have hf := HF.out w' hI; unfold relAt; go_simp; first | exact ⟨rfl, Below.refl _ _⟩ | exact Below.refl _ _ | exact ⟨trivial, Below.refl _ _⟩)
           simp only [Act.put, List.setIfInBounds_toArray, List.set_cons_zero, List.set_cons_succ])
      first
        | (refine wpRel_pass (by rfl) (fun U => by rfl) ?_; simp only [Act.put, List.setIfInBounds_toArray, List.set_cons_zero, List.set_cons_succ])
        | (refine' wpRel_fix (by rfl) (fun U => by rfl) (fun m U w' hI hG => ?_) ?_
           rotate_left
           focus (have hf := HF.out w' hI; unfold relAt; go_simp; first | exact ⟨rfl, Below.refl _ _⟩ | exact Below.refl _ _ | exact ⟨trivial, Below.refl _ _⟩)
           simp only [Act.put, List.setIfInBounds_toArray, List.set_cons_zero, List.set_cons_succ])
      first
        | (refine wpRel_pass (by rfl) (fun U => by rfl) ?_; simp only [Act.put, List.setIfInBounds_toArray, List.set_cons_zero, List.set_cons_succ])
        | (refine' wpRel_fix (by rfl) (fun U => by rfl) (fun m U w' hI hG => ?_) ?_
           rotate_left
           focus (have hf := HF.out w' hI; unfold relAt; go_simp; first | exact ⟨rfl, Below.refl _ _⟩ | exact Below.refl _ _ | exact ⟨trivial, Below.refl _ _⟩)
           simp only [Act.put, List.setIfInBounds_toArray, List.set_cons_zero, List.set_cons_succ])
      first
        | (refine wpRel_pass (by rfl) (fun U => by rfl) ?_; simp only [Act.put, List.setIfInBounds_toArray, List.set_cons_zero, List.set_cons_succ])
        | (refine' wpRel_fix (by rfl) (fun U => by rfl) (fun m U w' hI hG => ?_) ?_
           rotate_left
           focus (have hf := HF.out w' hI; unfold relAt; go_simp; first | exact ⟨rfl, Below.refl _ _⟩ | exact Below.refl _ _ | exact ⟨trivial, Below.refl _ _⟩)
           simp only [Act.put, List.setIfInBounds_toArray, List.set_cons_zero, List.set_cons_succ])
      first
        | (refine wpRel_pass (by rfl) (fun U => by rfl) ?_; simp only [Act.put, List.setIfInBounds_toArray, List.set_cons_zero, List.set_cons_succ])
        | (refine' wpRel_fix (by rfl) (fun U => by rfl) (fun m U w' hI hG => ?_) ?_
           rotate_left
           focus (have hf := HF.out w' hI; unfold relAt; go_simp; first | exact ⟨rfl, Below.refl _ _⟩ | exact Below.refl _ _ | exact ⟨trivial, Below.refl _ _⟩)
           simp only [Act.put, List.setIfInBounds_toArray, List.set_cons_zero, List.set_cons_succ])
      first
        | (refine wpRel_pass (by rfl) (fun U => by rfl) ?_; simp only [Act.put, List.setIfInBounds_toArray, List.set_cons_zero, List.set_cons_succ])
        | (refine' wpRel_fix (by rfl) (fun U => by rfl) (fun m U w' hI hG => ?_) ?_
           rotate_left
           focus (have hf := HF.out w' hI; unfold relAt; go_simp; first | exact ⟨rfl, Below.refl _ _⟩ | exact Below.refl _ _ | exact ⟨trivial, Below.refl _ _⟩)
           simp only [Act.put, List.setIfInBounds_toArray, List.set_cons_zero, List.set_cons_succ])
      first
        | (refine wpRel_pass (by rfl) (fun U => by rfl) ?_; simp only [Act.put, List.setIfInBounds_toArray, List.set_cons_zero, List.set_cons_succ])
        | (refine' wpRel_fix (by rfl) (fun U => by rfl) (fun m U w' hI hG => ?_) ?_
           rotate_left
           focus (have hf := HF.out w' hI; unfold relAt; go_simp; first | exact ⟨rfl, Below.refl _ _⟩ | exact Below.refl _ _ | exact ⟨trivial, Below.refl _ _⟩)
           simp only [Act.put, List.setIfInBounds_toArray, List.set_cons_zero, List.set_cons_succ])
      first
        | (refine wpRel_pass (by rfl) (fun U => by rfl) ?_; simp only [Act.put, List.setIfInBounds_toArray, List.set_cons_zero, List.set_cons_succ])
        | (refine' wpRel_fix (by rfl) (fun U => by rfl) (fun m U w' hI hG => ?_) ?_
           rotate_left
           focus (have hf := HF.out w' hI; unfold relAt; go_simp; first | exact ⟨rfl, Below.refl _ _⟩ | exact Below.refl _ _ | exact ⟨trivial, Below.refl _ _⟩)
           simp only [Act.put, List.setIfInBounds_toArray, List.set_cons_zero, List.set_cons_succ])
      first
        | (refine wpRel_pass (by rfl) (fun U => by rfl) ?_; simp only [Act.put, List.setIfInBounds_toArray, List.set_cons_zero, List.set_cons_succ])
        | (refine' wpRel_fix (by rfl) (fun U => by rfl) (fun m U w' hI hG => ?_) ?_
           rotate_left
           focus (have hf := HF.out w' hI; unfold relAt; go_simp; first | exact ⟨rfl, Below.refl _ _⟩ | exact Below.refl _ _ | exact ⟨trivial, Below.refl _ _⟩)
           simp only [Act.put, List.setIfInBounds_toArray, List.set_cons_zero, List.set_cons_succ])
      first
        | (refine wpRel_pass (by rfl) (fun U => by rfl) ?_; simp only [Act.put, List.setIfInBounds_toArray, List.set_cons_zero, List.set_cons_succ])
        | (refine' wpRel_fix (by rfl) (fun U => by rfl) (fun m U w' hI hG => ?_) ?_
           rotate_left
           focus (have hf := HF.out w' hI; unfold relAt; go_simp; first | exact ⟨rfl, Below.refl _ _⟩ | exact Below.refl _ _ | exact ⟨trivial, Below.refl _ _⟩)
           simp only [Act.put, List.setIfInBounds_toArray, List.set_cons_zero, List.set_cons_succ])
      first
        | (refine wpRel_pass (by rfl) (fun U => by rfl) ?_; simp only [Act.put, List.setIfInBounds_toArray, List.set_cons_zero, List.set_cons_succ])
        | (refine' wpRel_fix (by rfl) (fun U => by rfl) (fun m U w' hI hG => ?_) ?_
           rotate_left
           focus (have hf := HF.out w' hI; unfold relAt; go_simp; first | exact ⟨rfl, Below.refl _ _⟩ | exact Below.refl _ _ | exact ⟨trivial, Below.refl _ _⟩)
           simp only [Act.put, List.setIfInBounds_toArray, List.set_cons_zero, List.set_cons_succ])
      first
        | (refine wpRel_pass (by rfl) (fun U => by rfl) ?_; simp only [Act.put, List.setIfInBounds_toArray, List.set_cons_zero, List.set_cons_succ])
        | (refine' wpRel_fix (by rfl) (fun U => by rfl) (fun m U w' hI hG => ?_) ?_
           rotate_left
           focus (have hf := HF.out w' hI; unfold relAt; go_simp; first | exact ⟨rfl, Below.refl _ _⟩ | exact Below.refl _ _ | exact ⟨trivial, Below.refl _ _⟩)
           simp only [Act.put, List.setIfInBounds_toArray, List.set_cons_zero, List.set_cons_succ])
      first
        | (refine wpRel_pass (by rfl) (fun U => by rfl) ?_; simp only [Act.put, List.setIfInBounds_toArray, List.set_cons_zero, List.set_cons_succ])
        | (refine' wpRel_fix (by rfl) (fun U => by rfl) (fun m U w' hI hG => ?_) ?_
           rotate_left
           focus (have hf := HF.out w' hI; unfold relAt; go_simp; first | exact ⟨rfl, Below.refl _ _⟩ | exact Below.refl _ _ | exact ⟨trivial, Below.refl _ _⟩)
           simp only [Act.put, List.setIfInBounds_toArray, List.set_cons_zero, List.set_cons_succ])
      first
        | (refine wpRel_pass (by rfl) (fun U => by rfl) ?_; simp only [Act.put, List.setIfInBounds_toArray, List.set_cons_zero, List.set_cons_succ])
        | (refine' wpRel_fix (by rfl) (fun U => by rfl) (fun m U w' hI hG => ?_) ?_
           rotate_left
           focus (have hf := HF.out w' hI; unfold relAt; go_simp; first | exact ⟨rfl, Below.refl _ _⟩ | exact Below.refl _ _ | exact ⟨trivial, Below.refl _ _⟩)
           simp only [Act.put, List.setIfInBounds_toArray, List.set_cons_zero, List.set_cons_succ])
      first
        | (refine wpRel_pass (by rfl) (fun U => by rfl) ?_; simp only [Act.put, List.setIfInBounds_toArray, List.set_cons_zero, List.set_cons_succ])
        | (refine' wpRel_fix (by rfl) (fun U => by rfl) (fun m U w' hI hG => ?_) ?_
           rotate_left
           focus (have hf := HF.out w' hI; unfold relAt; go_simp; first | exact ⟨rfl, Below.refl _ _⟩ | exact Below.refl _ _ | exact ⟨trivial, Below.refl _ _⟩)
           simp only [Act.put, List.setIfInBounds_toArray, List.set_cons_zero, List.set_cons_succ])
      first
        | (refine wpRel_pass (by rfl) (fun U => by rfl) ?_; simp only [Act.put, List.setIfInBounds_toArray, List.set_cons_zero, List.set_cons_succ])
        | (refine' wpRel_fix (by rfl) (fun U => by rfl) (fun m U w' hI hG => ?_) ?_
           rotate_left
           focus (have hf := HF.out w' hI; unfold relAt; go_simp; first | exact ⟨rfl, Below.refl _ _⟩ | exact Below.refl _ _ | exact ⟨trivial, Below.refl _ _⟩)
           simp only [Act.put, List.setIfInBounds_toArray, List.set_cons_zero, List.set_cons_succ])
      refine wpRel_rel (RecsR ((s.drop K).map LRec.er)) rfl (RecsR.stable _) (by rfl) (fun U => by rfl) (fun m U w' hI hG => ?_) ?_
      · have hf := HF.out w' hI
        have HDA := Lib.hid (LLog.belowAll AL.out hI)
        have hla := HDA.out.lenCap
        simp only at hla
        by_cases hcq : c = K
        · have hlq : s.length = K := by omega
          have HLQ := Lib.hid hlq
          clear hlq hla
          subst hcq
          unfold relAt
          go_simp
          clear hf
          exact ⟨⟨⟨a, 0, []⟩, by simp [Loc.val, HLQ.out], by simp [← HLQ.out], ⟨Nat.le_refl _, Nat.zero_le _, by simp, by simp, by simp⟩⟩, Below.refl _ _⟩
        · have hcp : ¬ (c : Int) = (K : Int) := by omega
          have hpc : K < c := by omega
          have hpd : K ≤ c := by omega
          by_cases hs0 : s.length = 0
          · have hp0 : K = 0 := by omega
            obtain rfl : s = [] := List.eq_nil_of_length_eq_zero hs0
            subst hp0
            unfold relAt
            go_simp
            clear hf
            exact ⟨⟨⟨a, c, []⟩, rfl, rfl, HDA.out⟩, Below.refl _ _⟩
          · obtain ⟨ba, bo, hba⟩ := HDA.out.place (show 0 < s.length by omega)
            simp only at hba
            subst hba
            have HKS := Lib.hid (show K ≤ s.length by omega)
            unfold relAt
            go_simp
            clear hf
            exact ⟨⟨⟨some ⟨ba, bo + K * 5, none⟩, c - K, s.drop K⟩, by simp [Loc.val], by simp, drop_At HDA.out rfl HKS.out⟩, Below.refl _ _⟩
      simp only [Act.put, List.setIfInBounds_toArray, List.set_cons_zero, List.set_cons_succ]
      refine' wpRel_fix (by rfl) (fun U => by rfl) (fun m U w' hI hG => ?_) ?_
      rotate_left
      · obtain ⟨y, hv, hy, hA⟩ := hG _ (List.Mem.head _) (by rfl)
        simp only at hv
        have hf := HF.out w' hI
        unfold relAt
        simp only [hv]
        go_simp
        clear hf
        exact Calls.mono (lvRecs_yes ⟨xa, xc, xs⟩ y w' (LLog.belowAll AX.out hI) hA (K3.out.trans hy.symm)) fun e w'' h => ⟨h.1, h.2⟩
      simp only [Act.put, List.setIfInBounds_toArray, List.set_cons_zero, List.set_cons_succ]
      first
        | (refine wpRel_pass (by rfl) (fun U => by rfl) ?_; simp only [Act.put, List.setIfInBounds_toArray, List.set_cons_zero, List.set_cons_succ])
        | (refine' wpRel_fix (by rfl) (fun U => by rfl) (fun m U w' hI hG => ?_) ?_
           rotate_left
           focus (have hf := HF.out w' hI; unfold relAt; go_simp; first | exact ⟨rfl, Below.refl _ _⟩ | exact Below.refl _ _ | exact ⟨trivial, Below.refl _ _⟩)
           simp only [Act.put, List.setIfInBounds_toArray, List.set_cons_zero, List.set_cons_succ])
      first
        | (refine wpRel_pass (by rfl) (fun U => by rfl) ?_; simp only [Act.put, List.setIfInBounds_toArray, List.set_cons_zero, List.set_cons_succ])
        | (refine' wpRel_fix (by rfl) (fun U => by rfl) (fun m U w' hI hG => ?_) ?_
           rotate_left
           focus (have hf := HF.out w' hI; unfold relAt; go_simp; first | exact ⟨rfl, Below.refl _ _⟩ | exact Below.refl _ _ | exact ⟨trivial, Below.refl _ _⟩)
           simp only [Act.put, List.setIfInBounds_toArray, List.set_cons_zero, List.set_cons_succ])
      first
        | (refine wpRel_pass (by rfl) (fun U => by rfl) ?_; simp only [Act.put, List.setIfInBounds_toArray, List.set_cons_zero, List.set_cons_succ])
        | (refine' wpRel_fix (by rfl) (fun U => by rfl) (fun m U w' hI hG => ?_) ?_
           rotate_left
           focus (have hf := HF.out w' hI; unfold relAt; go_simp; first | exact ⟨rfl, Below.refl _ _⟩ | exact Below.refl _ _ | exact ⟨trivial, Below.refl _ _⟩)
           simp only [Act.put, List.setIfInBounds_toArray, List.set_cons_zero, List.set_cons_succ])
      refine' wpRel_fix (by rfl) (fun U => by rfl) (fun m U w' hI hG => ?_) ?_
      rotate_left
      · have hf := HF.out w' hI
        unfold relAt
        go_simp
        clear hf
        exact Calls.mono (HIX.out w' (LLog.belowAll AX.out hI)) fun e w'' h => ⟨h.1, h.2⟩
      simp only [Act.put, List.setIfInBounds_toArray, List.set_cons_zero, List.set_cons_succ]
      first
        | (refine wpRel_pass (by rfl) (fun U => by rfl) ?_; simp only [Act.put, List.setIfInBounds_toArray, List.set_cons_zero, List.set_cons_succ])
        | (refine' wpRel_fix (by rfl) (fun U => by rfl) (fun m U w' hI hG => ?_) ?_
           rotate_left
           focus (have hf := HF.out w' hI; unfold relAt; go_simp; first | exact ⟨rfl, Below.refl _ _⟩ | exact Below.refl _ _ | exact ⟨trivial, Below.refl _ _⟩)
           simp only [Act.put, List.setIfInBounds_toArray, List.set_cons_zero, List.set_cons_succ])
      refine' wpRel_fix (by rfl) (fun U => by rfl) (fun m U w' hI hG => ?_) ?_
      rotate_left
      · have hf := HF.out w' hI
        unfold relAt
        go_simp
        clear hf
        exact Calls.mono (HIE.out w' (LLog.belowAll AL.out hI)) fun e w'' h => ⟨h.1, h.2⟩
      simp only [Act.put, List.setIfInBounds_toArray, List.set_cons_zero, List.set_cons_succ]
      first
        | (refine wpRel_pass (by rfl) (fun U => by rfl) ?_; simp only [Act.put, List.setIfInBounds_toArray, List.set_cons_zero, List.set_cons_succ])
        | (refine' wpRel_fix (by rfl) (fun U => by rfl) (fun m U w' hI hG => ?_) ?_
           rotate_left
           focus (have hf := HF.out w' hI; unfold relAt; go_simp; first | exact ⟨rfl, Below.refl _ _⟩ | exact Below.refl _ _ | exact ⟨trivial, Below.refl _ _⟩)
           simp only [Act.put, List.setIfInBounds_toArray, List.set_cons_zero, List.set_cons_succ])
      first
        | (refine wpRel_pass (by rfl) (fun U => by rfl) ?_; simp only [Act.put, List.setIfInBounds_toArray, List.set_cons_zero, List.set_cons_succ])
        | (refine' wpRel_fix (by rfl) (fun U => by rfl) (fun m U w' hI hG => ?_) ?_
           rotate_left
           focus (have hf := HF.out w' hI; unfold relAt; go_simp; first | exact ⟨rfl, Below.refl _ _⟩ | exact Below.refl _ _ | exact ⟨trivial, Below.refl _ _⟩)
           simp only [Act.put, List.setIfInBounds_toArray, List.set_cons_zero, List.set_cons_succ])
      first
        | (refine wpRel_pass (by rfl) (fun U => by rfl) ?_; simp only [Act.put, List.setIfInBounds_toArray, List.set_cons_zero, List.set_cons_succ])
        | (refine' wpRel_fix (by rfl) (fun U => by rfl) (fun m U w' hI hG => ?_) ?_
           rotate_left
           focus (have hf := HF.out w' hI; unfold relAt; go_simp; first | exact ⟨rfl, Below.refl _ _⟩ | exact Below.refl _ _ | exact ⟨trivial, Below.refl _ _⟩)
           simp only [Act.put, List.setIfInBounds_toArray, List.set_cons_zero, List.set_cons_succ])
      first
        | (refine wpRel_pass (by rfl) (fun U => by rfl) ?_; simp only [Act.put, List.setIfInBounds_toArray, List.set_cons_zero, List.set_cons_succ])
        | (refine' wpRel_fix (by rfl) (fun U => by rfl) (fun m U w' hI hG => ?_) ?_
           rotate_left
           focus (have hf := HF.out w' hI; unfold relAt; go_simp; first | exact ⟨rfl, Below.refl _ _⟩ | exact Below.refl _ _ | exact ⟨trivial, Below.refl _ _⟩)
           simp only [Act.put, List.setIfInBounds_toArray, List.set_cons_zero, List.set_cons_succ])
      first
        | (refine wpRel_pass (by rfl) (fun U => by rfl) ?_; simp only [Act.put, List.setIfInBounds_toArray, List.set_cons_zero, List.set_cons_succ])
        | (refine' wpRel_fix (by rfl) (fun U => by rfl) (fun m U w' hI hG => ?_) ?_
           rotate_left
           focus (have hf := HF.out w' hI; unfold relAt; go_simp; first | exact ⟨rfl, Below.refl _ _⟩ | exact Below.refl _ _ | exact ⟨trivial, Below.refl _ _⟩)
           simp only [Act.put, List.setIfInBounds_toArray, List.set_cons_zero, List.set_cons_succ])
      first
        | (refine wpRel_pass (by rfl) (fun U => by rfl) ?_; simp only [Act.put, List.setIfInBounds_toArray, List.set_cons_zero, List.set_cons_succ])
        | (refine' wpRel_fix (by rfl) (fun U => by rfl) (fun m U w' hI hG => ?_) ?_
           rotate_left
           focus (have hf := HF.out w' hI; unfold relAt; go_simp; first | exact ⟨rfl, Below.refl _ _⟩ | exact Below.refl _ _ | exact ⟨trivial, Below.refl _ _⟩)
           simp only [Act.put, List.setIfInBounds_toArray, List.set_cons_zero, List.set_cons_succ])
      first
        | (refine wpRel_pass (by rfl) (fun U => by rfl) ?_; simp only [Act.put, List.setIfInBounds_toArray, List.set_cons_zero, List.set_cons_succ])
        | (refine' wpRel_fix (by rfl) (fun U => by rfl) (fun m U w' hI hG => ?_) ?_
           rotate_left
           focus (have hf := HF.out w' hI; unfold relAt; go_simp; first | exact ⟨rfl, Below.refl _ _⟩ | exact Below.refl _ _ | exact ⟨trivial, Below.refl _ _⟩)
           simp only [Act.put, List.setIfInBounds_toArray, List.set_cons_zero, List.set_cons_succ])
      first
        | (refine wpRel_pass (by rfl) (fun U => by rfl) ?_; simp only [Act.put, List.setIfInBounds_toArray, List.set_cons_zero, List.set_cons_succ])
        | (refine' wpRel_fix (by rfl) (fun U => by rfl) (fun m U w' hI hG => ?_) ?_
           rotate_left
           focus (have hf := HF.out w' hI; unfold relAt; go_simp; first | exact ⟨rfl, Below.refl _ _⟩ | exact Below.refl _ _ | exact ⟨trivial, Below.refl _ _⟩)
           simp only [Act.put, List.setIfInBounds_toArray, List.set_cons_zero, List.set_cons_succ])
      first
        | (refine wpRel_pass (by rfl) (fun U => by rfl) ?_; simp only [Act.put, List.setIfInBounds_toArray, List.set_cons_zero, List.set_cons_succ])
        | (refine' wpRel_fix (by rfl) (fun U => by rfl) (fun m U w' hI hG => ?_) ?_
           rotate_left
           focus (have hf := HF.out w' hI; unfold relAt; go_simp; first | exact ⟨rfl, Below.refl _ _⟩ | exact Below.refl _ _ | exact ⟨trivial, Below.refl _ _⟩)
           simp only [Act.put, List.setIfInBounds_toArray, List.set_cons_zero, List.set_cons_succ])
      first
        | (refine wpRel_pass (by rfl) (fun U => by rfl) ?_; simp only [Act.put, List.setIfInBounds_toArray, List.set_cons_zero, List.set_cons_succ])
        | (refine' wpRel_fix (by rfl) (fun U => by rfl) (fun m U w' hI hG => ?_) ?_
           rotate_left
           focus (have hf := HF.out w' hI; unfold relAt; go_simp; first | exact ⟨rfl, Below.refl _ _⟩ | exact Below.refl _ _ | exact ⟨trivial, Below.refl _ _⟩)
           simp only [Act.put, List.setIfInBounds_toArray, List.set_cons_zero, List.set_cons_succ])
      first
        | (refine wpRel_pass (by rfl) (fun U => by rfl) ?_; simp only [Act.put, List.setIfInBounds_toArray, List.set_cons_zero, List.set_cons_succ])
        | (refine' wpRel_fix (by rfl) (fun U => by rfl) (fun m U w' hI hG => ?_) ?_
           rotate_left
           focus (have hf := HF.out w' hI; unfold relAt; go_simp; first | exact ⟨rfl, Below.refl _ _⟩ | exact Below.refl _ _ | exact ⟨trivial, Below.refl _ _⟩)
           simp only [Act.put, List.setIfInBounds_toArray, List.set_cons_zero, List.set_cons_succ])
      first
        | (refine wpRel_pass (by rfl) (fun U => by rfl) ?_; simp only [Act.put, List.setIfInBounds_toArray, List.set_cons_zero, List.set_cons_succ])
        | (refine' wpRel_fix (by rfl) (fun U => by rfl) (fun m U w' hI hG => ?_) ?_
           rotate_left
           focus (have hf := HF.out w' hI; unfold relAt; go_simp; first | exact ⟨rfl, Below.refl _ _⟩ | exact Below.refl _ _ | exact ⟨trivial, Below.refl _ _⟩)
           simp only [Act.put, List.setIfInBounds_toArray, List.set_cons_zero, List.set_cons_succ])
      first
        | (refine wpRel_pass (by rfl) (fun U => by rfl) ?_; simp only [Act.put, List.setIfInBounds_toArray, List.set_cons_zero, List.set_cons_succ])
        | (refine' wpRel_fix (by rfl) (fun U => by rfl) (fun m U w' hI hG => ?_) ?_
           rotate_left
           focus (have hf := HF.out w' hI; unfold relAt; go_simp; first | exact ⟨rfl, Below.refl _ _⟩ | exact Below.refl _ _ | exact ⟨trivial, Below.refl _ _⟩)
           simp only [Act.put, List.setIfInBounds_toArray, List.set_cons_zero, List.set_cons_succ])
      first
        | (refine wpRel_pass (by rfl) (fun U => by rfl) ?_; simp only [Act.put, List.setIfInBounds_toArray, List.set_cons_zero, List.set_cons_succ])
        | (refine' wpRel_fix (by rfl) (fun U => by rfl) (fun m U w' hI hG => ?_) ?_
           rotate_left
           focus (have hf := HF.out w' hI; unfold relAt; go_simp; first | exact ⟨rfl, Below.refl _ _⟩ | exact Below.refl _ _ | exact ⟨trivial, Below.refl _ _⟩)
           simp only [Act.put, List.setIfInBounds_toArray, List.set_cons_zero, List.set_cons_succ])
      first
        | (refine wpRel_pass (by rfl) (fun U => by rfl) ?_; simp only [Act.put, List.setIfInBounds_toArray, List.set_cons_zero, List.set_cons_succ])
        | (refine' wpRel_fix (by rfl) (fun U => by rfl) (fun m U w' hI hG => ?_) ?_
           rotate_left
           focus (have hf := HF.out w' hI; unfold relAt; go_simp; first | exact ⟨rfl, Below.refl _ _⟩ | exact Below.refl _ _ | exact ⟨trivial, Below.refl _ _⟩)
           simp only [Act.put, List.setIfInBounds_toArray, List.set_cons_zero, List.set_cons_succ])
      first
        | (refine wpRel_pass (by rfl) (fun U => by rfl) ?_; simp only [Act.put, List.setIfInBounds_toArray, List.set_cons_zero, List.set_cons_succ])
        | (refine' wpRel_fix (by rfl) (fun U => by rfl) (fun m U w' hI hG => ?_) ?_
           rotate_left
           focus (have hf := HF.out w' hI; unfold relAt; go_simp; first | exact ⟨rfl, Below.refl _ _⟩ | exact Below.refl _ _ | exact ⟨trivial, Below.refl _ _⟩)
           simp only [Act.put, List.setIfInBounds_toArray, List.set_cons_zero, List.set_cons_succ])
      first
        | (refine wpRel_pass (by rfl) (fun U => by rfl) ?_; simp only [Act.put, List.setIfInBounds_toArray, List.set_cons_zero, List.set_cons_succ])
        | (refine' wpRel_fix (by rfl) (fun U => by rfl) (fun m U w' hI hG => ?_) ?_
           rotate_left
           focus (have hf := HF.out w' hI; unfold relAt; go_simp; first | exact ⟨rfl, Below.refl _ _⟩ | exact Below.refl _ _ | exact ⟨trivial, Below.refl _ _⟩)
           simp only [Act.put, List.setIfInBounds_toArray, List.set_cons_zero, List.set_cons_succ])
      first
        | (refine wpRel_pass (by rfl) (fun U => by rfl) ?_; simp only [Act.put, List.setIfInBounds_toArray, List.set_cons_zero, List.set_cons_succ])
        | (refine' wpRel_fix (by rfl) (fun U => by rfl) (fun m U w' hI hG => ?_) ?_
           rotate_left
           focus (have hf := HF.out w' hI; unfold relAt; go_simp; first | exact ⟨rfl, Below.refl _ _⟩ | exact Below.refl _ _ | exact ⟨trivial, Below.refl _ _⟩)
           simp only [Act.put, List.setIfInBounds_toArray, List.set_cons_zero, List.set_cons_succ])
      first
        | (refine wpRel_pass (by rfl) (fun U => by rfl) ?_; simp only [Act.put, List.setIfInBounds_toArray, List.set_cons_zero, List.set_cons_succ])
        | (refine' wpRel_fix (by rfl) (fun U => by rfl) (fun m U w' hI hG => ?_) ?_
           rotate_left
           focus (have hf := HF.out w' hI; unfold relAt; go_simp; first | exact ⟨rfl, Below.refl _ _⟩ | exact Below.refl _ _ | exact ⟨trivial, Below.refl _ _⟩)
           simp only [Act.put, List.setIfInBounds_toArray, List.set_cons_zero, List.set_cons_succ])
      first
        | (refine wpRel_pass (by rfl) (fun U => by rfl) ?_; simp only [Act.put, List.setIfInBounds_toArray, List.set_cons_zero, List.set_cons_succ])
        | (refine' wpRel_fix (by rfl) (fun U => by rfl) (fun m U w' hI hG => ?_) ?_
           rotate_left
           focus (have hf := HF.out w' hI; unfold relAt; go_simp; first | exact ⟨rfl, Below.refl _ _⟩ | exact Below.refl _ _ | exact ⟨trivial, Below.refl _ _⟩)
           simp only [Act.put, List.setIfInBounds_toArray, List.set_cons_zero, List.set_cons_succ])
      first
        | (refine wpRel_pass (by rfl) (fun U => by rfl) ?_; simp only [Act.put, List.setIfInBounds_toArray, List.set_cons_zero, List.set_cons_succ])
        | (refine' wpRel_fix (by rfl) (fun U => by rfl) (fun m U w' hI hG => ?_) ?_
           rotate_left
           focus (have hf := HF.out w' hI; unfold relAt; go_simp; first | exact ⟨rfl, Below.refl _ _⟩ | exact Below.refl _ _ | exact ⟨trivial, Below.refl _ _⟩)
           simp only [Act.put, List.setIfInBounds_toArray, List.set_cons_zero, List.set_cons_succ])
      first
        | (refine wpRel_pass (by rfl) (fun U => by rfl) ?_; simp only [Act.put, List.setIfInBounds_toArray, List.set_cons_zero, List.set_cons_succ])
        | (refine' wpRel_fix (by rfl) (fun U => by rfl) (fun m U w' hI hG => ?_) ?_
           rotate_left
           focus (have hf := HF.out w' hI; unfold relAt; go_simp; first | exact ⟨rfl, Below.refl _ _⟩ | exact Below.refl _ _ | exact ⟨trivial, Below.refl _ _⟩)
           simp only [Act.put, List.setIfInBounds_toArray, List.set_cons_zero, List.set_cons_succ])
      first
        | (refine wpRel_pass (by rfl) (fun U => by rfl) ?_; simp only [Act.put, List.setIfInBounds_toArray, List.set_cons_zero, List.set_cons_succ])
        | (refine' wpRel_fix (by rfl) (fun U => by rfl) (fun m U w' hI hG => ?_) ?_
           rotate_left
           focus (have hf := HF.out w' hI; unfold relAt; go_simp; first | exact ⟨rfl, Below.refl _ _⟩ | exact Below.refl _ _ | exact ⟨trivial, Below.refl _ _⟩)
           simp only [Act.put, List.setIfInBounds_toArray, List.set_cons_zero, List.set_cons_succ])
      first
        | (refine wpRel_pass (by rfl) (fun U => by rfl) ?_; simp only [Act.put, List.setIfInBounds_toArray, List.set_cons_zero, List.set_cons_succ])
        | (refine' wpRel_fix (by rfl) (fun U => by rfl) (fun m U w' hI hG => ?_) ?_
           rotate_left
           focus (have hf := HF.out w' hI; unfold relAt; go_simp; first | exact ⟨rfl, Below.refl _ _⟩ | exact Below.refl _ _ | exact ⟨trivial, Below.refl _ _⟩)
           simp only [Act.put, List.setIfInBounds_toArray, List.set_cons_zero, List.set_cons_succ])
      first
        | (refine wpRel_pass (by rfl) (fun U => by rfl) ?_; simp only [Act.put, List.setIfInBounds_toArray, List.set_cons_zero, List.set_cons_succ])
        | (refine' wpRel_fix (by rfl) (fun U => by rfl) (fun m U w' hI hG => ?_) ?_
           rotate_left
           focus (have hf := HF.out w' hI; unfold relAt; go_simp; first | exact ⟨rfl, Below.refl _ _⟩ | exact Below.refl _ _ | exact ⟨trivial, Below.refl _ _⟩)
           simp only [Act.put, List.setIfInBounds_toArray, List.set_cons_zero, List.set_cons_succ])
      first
        | (refine wpRel_pass (by rfl) (fun U => by rfl) ?_; simp only [Act.put, List.setIfInBounds_toArray, List.set_cons_zero, List.set_cons_succ])
        | (refine' wpRel_fix (by rfl) (fun U => by rfl) (fun m U w' hI hG => ?_) ?_
           rotate_left
           focus (have hf := HF.out w' hI; unfold relAt; go_simp; first | exact ⟨rfl, Below.refl _ _⟩ | exact Below.refl _ _ | exact ⟨trivial, Below.refl _ _⟩)
           simp only [Act.put, List.setIfInBounds_toArray, List.set_cons_zero, List.set_cons_succ])
      first
        | (refine wpRel_pass (by rfl) (fun U => by rfl) ?_; simp only [Act.put, List.setIfInBounds_toArray, List.set_cons_zero, List.set_cons_succ])
        | (refine' wpRel_fix (by rfl) (fun U => by rfl) (fun m U w' hI hG => ?_) ?_
           rotate_left
           focus (have hf := HF.out w' hI; unfold relAt; go_simp; first | exact ⟨rfl, Below.refl _ _⟩ | exact Below.refl _ _ | exact ⟨trivial, Below.refl _ _⟩)
           simp only [Act.put, List.setIfInBounds_toArray, List.set_cons_zero, List.set_cons_succ])
      refine' wpRel_fix (by rfl) (fun U => by rfl) (fun m U w' hI hG => ?_) ?_
      rotate_left
      · have hf := HF.out w' hI
        unfold relAt
        go_simp
        clear hf
        exact Calls.mono (HOX.out w' (LLog.belowAll AX.out hI)) fun e w'' h => ⟨h.1, h.2⟩
      simp only [Act.put, List.setIfInBounds_toArray, List.set_cons_zero, List.set_cons_succ]
      first
        | (refine wpRel_pass (by rfl) (fun U => by rfl) ?_; simp only [Act.put, List.setIfInBounds_toArray, List.set_cons_zero, List.set_cons_succ])
        | (refine' wpRel_fix (by rfl) (fun U => by rfl) (fun m U w' hI hG => ?_) ?_
           rotate_left
           focus (have hf := HF.out w' hI; unfold relAt; go_simp; first | exact ⟨rfl, Below.refl _ _⟩ | exact Below.refl _ _ | exact ⟨trivial, Below.refl _ _⟩)
           simp only [Act.put, List.setIfInBounds_toArray, List.set_cons_zero, List.set_cons_succ])
      first
        | (refine wpRel_pass (by rfl) (fun U => by rfl) ?_; simp only [Act.put, List.setIfInBounds_toArray, List.set_cons_zero, List.set_cons_succ])
        | (refine' wpRel_fix (by rfl) (fun U => by rfl) (fun m U w' hI hG => ?_) ?_
           rotate_left
           focus (have hf := HF.out w' hI; unfold relAt; go_simp; first | exact ⟨rfl, Below.refl _ _⟩ | exact Below.refl _ _ | exact ⟨trivial, Below.refl _ _⟩)
           simp only [Act.put, List.setIfInBounds_toArray, List.set_cons_zero, List.set_cons_succ])
      intro U w6 hI hG
      replace hI : Below w5.heap.size w5 w6 := hI
      replace B := Lib.hid (nextB B.out (hI))
      replace AL := Lib.hid (LLog.belowAll AL.out (hI))
      replace BL := Lib.hid (BL.out.keep (hI))
      replace AX := Lib.hid (LLog.belowAll AX.out (hI))
      replace BX := Lib.hid (BX.out.keep (hI))
      go_wp2_with fail
      go_ret
      exact ⟨rfl, B.out⟩

end Go.Proofs.YtdbejmnfnbkndaaDoor
