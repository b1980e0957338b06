/- The walks of FnLogEnd, FnLogAdd. -/
import Derived.Test.YtdbejmnfnbkndaaDoorLogKit
namespace Go.Proofs.YtdbejmnfnbkndaaDoor
open Go Go.RowKit

set_option maxRecDepth 100000 in
set_option maxHeartbeats 4000000 in
theorem logEnd_walk (x : Loc UInt8) (w : World) (hx : x.At w) :
    Calls Tryd.prog 4 #[x.val] w fun e w' => e = .returned (.bool true) ∧ Below w.heap.size w w' := by
  have h1 := hx.lenMax
  have HX0 := Lib.hid hx
  clear hx
  by_cases hbig : (1048576 : Int) < (x.xs.length : Int)
  · obtain ⟨xa, xc, xs⟩ := x
    simp only [Loc.val] at hbig ⊢
    go_enter Tryd.func4, Tryd.ntmps4
    go_wp2_with fail
    go_ret
    exact ⟨rfl, Below.refl _ _⟩
  have hc := Lib.hid (drawLogEnd_any x w HX0.out)
  obtain ⟨ua, uc, us⟩ := x
  simp only [Loc.val] at hbig hc ⊢
  go_enter Tryd.func4, Tryd.ntmps4
  go_wp2_with fail
  refine hc.out.mono ?_
  rintro e w1 ⟨⟨f, ⟨a, c, s⟩⟩, rfl, ⟨hlo, hhi, hfew, hA, hb, hge⟩⟩
  simp only [LLog.val, Loc.val]
  simp only at hlo hhi hfew
  have hB2 : Below w1.heap.size w1 (w1.alloc (Obj.cells #[.int .i64 f, .slice a s.length c] 25)) := (Below.refl _ _).alloc (Nat.le_refl _) _
  have B := Lib.hid (nextB hb hB2)
  have BL := Lib.hid (Boxed.new w1 #[.int .i64 f, .slice a s.length c] 25)
  have AL : Hid (LLog.At _ ⟨f, ⟨a, c, s⟩⟩) := Lib.hid (LLog.belowAll hA hB2)

  generalize hL : LLog.er ⟨f, ⟨a, c, s⟩⟩ = L
  have HL := Lib.hid hL
  clear hb hA hge hc hL
  go_wp2_with fail
  generalize w1.alloc (Obj.cells #[.int .i64 f, .slice a s.length c] 25) = w2 at *
  generalize w1.heap.size = p at *
  clear hB2
  have HIE : Hid (∀ W, LLog.At W ⟨f, ⟨a, c, s⟩⟩ → Calls Tryd.prog 14 #[.agg #[.int .i64 f, .slice a s.length c]] W fun e w' => e = .returned (.int .i64 (endZ L)) ∧ Below W.heap.size W w') := Lib.hid (fun W hW => by
    have h := iLogEnd_any ⟨f, ⟨a, c, s⟩⟩ W hW
    rw [HL.out] at h
    exact h)
  have HSE : Hid (∀ W, LLog.At W ⟨f, ⟨a, c, s⟩⟩ → Calls Tryd.prog 15 #[.agg #[.int .i64 f, .slice a s.length c]] W fun e w' => e = .returned (.int .i64 (endZ L)) ∧ Below W.heap.size W w') := Lib.hid (fun W hW => by
    have h := sLogEnd_any ⟨f, ⟨a, c, s⟩⟩ W hW
    rw [HL.out] at h
    exact h)
  generalize hb : logB L = b
  have HLB := Lib.hid hb
  have HOK : Hid (∀ W, LLog.At W ⟨f, ⟨a, c, s⟩⟩ → Calls Tryd.prog 12 #[.agg #[.int .i64 f, .slice a s.length c]] W fun e w' => e = .returned (.bool b) ∧ Below W.heap.size W w') := Lib.hid (fun W hW => by
    have h := sLogOk_any ⟨f, ⟨a, c, s⟩⟩ W hW
    rw [HL.out, HLB.out] at h
    exact h)
  clear hb
  have HER := Lib.hid (endZ_rng (l := L))
  have HCUT : Hid (b = true → cutZ (endZ L) L = L) := Lib.hid (fun hb => endCut_law (by rw [HLB.out, hb]))
  have HADD : Hid (b = true → addZ L [] = (L, true)) := Lib.hid (fun hb => by
    have h1 : logB L = true := by rw [HLB.out, hb]
    obtain ⟨q0, q1, q2, q3, q4⟩ := (logB_iff L).1 h1
    have hf : L.from_ ≤ 17 := by rw [← HL.out]; exact hhi
    obtain ⟨r1, r2, r3⟩ := add_law (ms := []) h1 ⟨rfl, by simp⟩ ⟨by simpa using q3, by omega⟩
    rw [List.append_nil] at r1
    exact Prod.ext r1 r2)
  have HEND : Hid (b = true → endZ L = f + (s.length : Int)) := Lib.hid (fun hb => by
    have h1 : logB L = true := by rw [HLB.out, hb]
    rw [endZ_ok h1, ← HL.out]
    simp [LLog.er])
  generalize endZ L = el at *
  refine (HIE.out w2 AL.out).mono ?_
  rintro e w3 ⟨rfl, b3⟩
  replace B := Lib.hid (nextB B.out (b3))
  replace AL := Lib.hid (LLog.belowAll AL.out (b3))
  replace BL := Lib.hid (BL.out.keep (b3))
  clear b3
  have hl0 := BL.out.2 0 _ rfl
  have hl1 := BL.out.2 1 _ rfl
  go_wp2_with fail
  clear hl0 hl1
  refine (HSE.out w3 AL.out).mono ?_
  rintro e w4 ⟨rfl, b4⟩
  replace B := Lib.hid (nextB B.out (b4))
  replace AL := Lib.hid (LLog.belowAll AL.out (b4))
  replace BL := Lib.hid (BL.out.keep (b4))
  clear b4
  have hee : (el != el) = false := by simp
  have hl0 := BL.out.2 0 _ rfl
  have hl1 := BL.out.2 1 _ rfl
  go_wp2_with fail
  clear hl0 hl1
  refine (HOK.out w4 AL.out).mono ?_
  rintro e w5 ⟨rfl, b5⟩
  replace B := Lib.hid (nextB B.out (b5))
  replace AL := Lib.hid (LLog.belowAll AL.out (b5))
  replace BL := Lib.hid (BL.out.keep (b5))
  clear b5
  have hl0 := BL.out.2 0 _ rfl
  have hl1 := BL.out.2 1 _ rfl
  cases b with
  | false =>
    go_wp2_with fail
    clear hl0 hl1
    refine (HSE.out w5 AL.out).mono ?_
    rintro e w6 ⟨rfl, b6⟩
    replace B := Lib.hid (nextB B.out (b6))
    replace AL := Lib.hid (LLog.belowAll AL.out (b6))
    replace BL := Lib.hid (BL.out.keep (b6))
    go_wp2_with fail
    go_ret
    exact ⟨rfl, B.out⟩
  | true =>
    have HADC := Lib.hid (fun W (hW : LLog.At W ⟨f, ⟨a, c, s⟩⟩) => show Calls Tryd.prog 16 #[.agg #[.int .i64 f, .slice a s.length c], .slice none 0 0] W (AddPost W.heap.size W (L, true)) by
      have h := iLogAdd_any ⟨f, ⟨a, c, s⟩⟩ (⟨none, 0, []⟩ : Loc LRec) W hW ⟨Nat.le_refl _, Nat.zero_le _, by simp, by simp, by simp⟩
      rw [HL.out, List.map_nil, HADD.out rfl] at h
      exact h)
    have hend := HEND.out rfl
    have hrng := HER.out
    have HCU := Lib.hid (HCUT.out rfl)
    have hadd : IntKind.i64.wrap (f + (s.length : Int)) = el := by rw [hend]; exact IntWalk.i64_in _ (by omega)
    have HRNG := Lib.hid (show -9223372036854775808 ≤ el ∧ el ≤ 9223372036854775807 by omega)
    have HCX : Hid (∀ W, LLog.At W ⟨f, ⟨a, c, s⟩⟩ → Calls Tryd.prog 18 #[.agg #[.int .i64 f, .slice a s.length c], .int .i64 el] W (LogNew W (fun l => l = L))) := Lib.hid (fun W hW => by
      have h := iLogCut_any ⟨f, ⟨a, c, s⟩⟩ el W hW HRNG.out
      rw [HL.out, HCU.out] at h
      exact h)
    clear HCUT HADD HEND hend hrng HER
    go_wp2_with fail
    clear hl0 hl1
    refine (HADC.out w5 AL.out).mono ?_
    rintro e w3 ⟨⟨xf, ⟨xa, xc, xs⟩⟩, rfl, hx, hxA, -, b3⟩
    simp only [LLog.val, Loc.val]
    have hB4 : Below w3.heap.size w3 (w3.alloc (Obj.cells #[.int .i64 xf, .slice xa xs.length xc] 25)) := (Below.refl _ _).alloc (Nat.le_refl _) _
    replace B := Lib.hid (nextB B.out (nextB b3 hB4))
    replace AL := Lib.hid (LLog.belowAll AL.out (nextB b3 hB4))
    replace BL := Lib.hid (BL.out.keep (nextB b3 hB4))
    have BX := Lib.hid (Boxed.new w3 #[.int .i64 xf, .slice xa xs.length xc] 25)
    have AX : Hid (LLog.At _ ⟨xf, ⟨xa, xc, xs⟩⟩) := Lib.hid (LLog.belowAll hxA hB4)
    have EX : Hid (LLog.er ⟨xf, ⟨xa, xc, xs⟩⟩ = L) := Lib.hid hx
    clear b3 hB4 hx hxA HADC
    go_wp2_with fail
    generalize w3.alloc (Obj.cells #[.int .i64 xf, .slice xa xs.length xc] 25) = w6 at *
    generalize w3.heap.size = q at *
    have HF : Hid (∀ w', Below w6.heap.size w6 w' → w'.cell? ⟨p, 0, none⟩ = some (.int .i64 f) ∧ w'.cell? ⟨p, 1, none⟩ = some (.slice a s.length c) ∧ w'.cell? ⟨q, 0, none⟩ = some (.int .i64 xf) ∧ w'.cell? ⟨q, 1, none⟩ = some (.slice xa xs.length xc)) :=
      Lib.hid (fun w' h => ⟨(BL.out.keep h).2 0 _ rfl, (BL.out.keep h).2 1 _ rfl, (BX.out.keep h).2 0 _ rfl, (BX.out.keep h).2 1 _ rfl⟩)
    refine wp_region_rel 24 (by kernel_rfl) (by kernel_rfl) (by rfl) ?_
    simp only [List.take_succ_cons, List.take_zero, List.drop_succ_cons, List.drop_zero]
    first
      | (refine wpRel_pass (by rfl) (fun U => by rfl) ?_; simp only [Act.put, List.setIfInBounds_toArray, List.set_cons_zero, List.set_cons_succ])
      | (refine' wpRel_fix (by rfl) (fun U => by rfl) (fun m U w' hI hG => ?_) ?_
         rotate_left
         focus (have hf := HF.out w' hI; unfold relAt; go_simp; first | exact ⟨rfl, Below.refl _ _⟩ | exact Below.refl _ _ | exact ⟨trivial, Below.refl _ _⟩)
         simp only [Act.put, List.setIfInBounds_toArray, List.set_cons_zero, List.set_cons_succ])
    first
      | (refine wpRel_pass (by rfl) (fun U => by rfl) ?_; simp only [Act.put, List.setIfInBounds_toArray, List.set_cons_zero, List.set_cons_succ])
      | (refine' wpRel_fix (by rfl) (fun U => by rfl) (fun m U w' hI hG => ?_) ?_
         rotate_left
         focus (have hf := HF.out w' hI; unfold relAt; go_simp; first | exact ⟨rfl, Below.refl _ _⟩ | exact Below.refl _ _ | exact ⟨trivial, Below.refl _ _⟩)
         simp only [Act.put, List.setIfInBounds_toArray, List.set_cons_zero, List.set_cons_succ])
    first
      | (refine wpRel_pass (by rfl) (fun U => by rfl) ?_; simp only [Act.put, List.setIfInBounds_toArray, List.set_cons_zero, List.set_cons_succ])
      | (refine' wpRel_fix (by rfl) (fun U => by rfl) (fun m U w' hI hG => ?_) ?_
         rotate_left
         focus (have hf := HF.out w' hI; unfold relAt; go_simp; first | exact ⟨rfl, Below.refl _ _⟩ | exact Below.refl _ _ | exact ⟨trivial, Below.refl _ _⟩)
         simp only [Act.put, List.setIfInBounds_toArray, List.set_cons_zero, List.set_cons_succ])
    first
      | (refine wpRel_pass (by rfl) (fun U => by rfl) ?_; simp only [Act.put, List.setIfInBounds_toArray, List.set_cons_zero, List.set_cons_succ])
      | (refine' wpRel_fix (by rfl) (fun U => by rfl) (fun m U w' hI hG => ?_) ?_
         rotate_left
         focus (have hf := HF.out w' hI; unfold relAt; go_simp; first | exact ⟨rfl, Below.refl _ _⟩ | exact Below.refl _ _ | exact ⟨trivial, Below.refl _ _⟩)
         simp only [Act.put, List.setIfInBounds_toArray, List.set_cons_zero, List.set_cons_succ])
    first
      | (refine wpRel_pass (by rfl) (fun U => by rfl) ?_; simp only [Act.put, List.setIfInBounds_toArray, List.set_cons_zero, List.set_cons_succ])
      | (refine' wpRel_fix (by rfl) (fun U => by rfl) (fun m U w' hI hG => ?_) ?_
         rotate_left
         focus (have hf := HF.out w' hI; unfold relAt; go_simp; first | exact ⟨rfl, Below.refl _ _⟩ | exact Below.refl _ _ | exact ⟨trivial, Below.refl _ _⟩)
         simp only [Act.put, List.setIfInBounds_toArray, List.set_cons_zero, List.set_cons_succ])
    first
      | (refine wpRel_pass (by rfl) (fun U => by rfl) ?_; simp only [Act.put, List.setIfInBounds_toArray, List.set_cons_zero, List.set_cons_succ])
      | (refine' wpRel_fix (by rfl) (fun U => by rfl) (fun m U w' hI hG => ?_) ?_
         rotate_left
         focus (have hf := HF.out w' hI; unfold relAt; go_simp; first | exact ⟨rfl, Below.refl _ _⟩ | exact Below.refl _ _ | exact ⟨trivial, Below.refl _ _⟩)
         simp only [Act.put, List.setIfInBounds_toArray, List.set_cons_zero, List.set_cons_succ])
    first
      | (refine wpRel_pass (by rfl) (fun U => by rfl) ?_; simp only [Act.put, List.setIfInBounds_toArray, List.set_cons_zero, List.set_cons_succ])
      | (refine' wpRel_fix (by rfl) (fun U => by rfl) (fun m U w' hI hG => ?_) ?_
         rotate_left
         focus (have hf := HF.out w' hI; unfold relAt; go_simp; first | exact ⟨rfl, Below.refl _ _⟩ | exact Below.refl _ _ | exact ⟨trivial, Below.refl _ _⟩)
         simp only [Act.put, List.setIfInBounds_toArray, List.set_cons_zero, List.set_cons_succ])
    first
      | (refine wpRel_pass (by rfl) (fun U => by rfl) ?_; simp only [Act.put, List.setIfInBounds_toArray, List.set_cons_zero, List.set_cons_succ])
      | (refine' wpRel_fix (by rfl) (fun U => by rfl) (fun m U w' hI hG => ?_) ?_
         rotate_left
         focus (have hf := HF.out w' hI; unfold relAt; go_simp; first | exact ⟨rfl, Below.refl _ _⟩ | exact Below.refl _ _ | exact ⟨trivial, Below.refl _ _⟩)
         simp only [Act.put, List.setIfInBounds_toArray, List.set_cons_zero, List.set_cons_succ])
    first
      | (refine wpRel_pass (by rfl) (fun U => by rfl) ?_; simp only [Act.put, List.setIfInBounds_toArray, List.set_cons_zero, List.set_cons_succ])
      | (refine' wpRel_fix (by rfl) (fun U => by rfl) (fun m U w' hI hG => ?_) ?_
         rotate_left
         focus (have hf := HF.out w' hI; unfold relAt; go_simp; first | exact ⟨rfl, Below.refl _ _⟩ | exact Below.refl _ _ | exact ⟨trivial, Below.refl _ _⟩)
         simp only [Act.put, List.setIfInBounds_toArray, List.set_cons_zero, List.set_cons_succ])
    first
      | (refine wpRel_pass (by rfl) (fun U => by rfl) ?_; simp only [Act.put, List.setIfInBounds_toArray, List.set_cons_zero, List.set_cons_succ])
      | (refine' wpRel_fix (by rfl) (fun U => by rfl) (fun m U w' hI hG => ?_) ?_
         rotate_left
         focus (have hf := HF.out w' hI; unfold relAt; go_simp; first | exact ⟨rfl, Below.refl _ _⟩ | exact Below.refl _ _ | exact ⟨trivial, Below.refl _ _⟩)
         simp only [Act.put, List.setIfInBounds_toArray, List.set_cons_zero, List.set_cons_succ])
    first
      | (refine wpRel_pass (by rfl) (fun U => by rfl) ?_; simp only [Act.put, List.setIfInBounds_toArray, List.set_cons_zero, List.set_cons_succ])
      | (refine' wpRel_fix (by rfl) (fun U => by rfl) (fun m U w' hI hG => ?_) ?_
         rotate_left
         focus (have hf := HF.out w' hI; unfold relAt; go_simp; first | exact ⟨rfl, Below.refl _ _⟩ | exact Below.refl _ _ | exact ⟨trivial, Below.refl _ _⟩)
         simp only [Act.put, List.setIfInBounds_toArray, List.set_cons_zero, List.set_cons_succ])
    first
      | (refine wpRel_pass (by rfl) (fun U => by rfl) ?_; simp only [Act.put, List.setIfInBounds_toArray, List.set_cons_zero, List.set_cons_succ])
      | (refine' wpRel_fix (by rfl) (fun U => by rfl) (fun m U w' hI hG => ?_) ?_
         rotate_left
         focus (have hf := HF.out w' hI; unfold relAt; go_simp; first | exact ⟨rfl, Below.refl _ _⟩ | exact Below.refl _ _ | exact ⟨trivial, Below.refl _ _⟩)
         simp only [Act.put, List.setIfInBounds_toArray, List.set_cons_zero, List.set_cons_succ])
    first
      | (refine wpRel_pass (by rfl) (fun U => by rfl) ?_; simp only [Act.put, List.setIfInBounds_toArray, List.set_cons_zero, List.set_cons_succ])
      | (refine' wpRel_fix (by rfl) (fun U => by rfl) (fun m U w' hI hG => ?_) ?_
         rotate_left
         focus (have hf := HF.out w' hI; unfold relAt; go_simp; first | exact ⟨rfl, Below.refl _ _⟩ | exact Below.refl _ _ | exact ⟨trivial, Below.refl _ _⟩)
         simp only [Act.put, List.setIfInBounds_toArray, List.set_cons_zero, List.set_cons_succ])
    first
      | (refine wpRel_pass (by rfl) (fun U => by rfl) ?_; simp only [Act.put, List.setIfInBounds_toArray, List.set_cons_zero, List.set_cons_succ])
      | (refine' wpRel_fix (by rfl) (fun U => by rfl) (fun m U w' hI hG => ?_) ?_
         rotate_left
         focus (have hf := HF.out w' hI; unfold relAt; go_simp; first | exact ⟨rfl, Below.refl _ _⟩ | exact Below.refl _ _ | exact ⟨trivial, Below.refl _ _⟩)
         simp only [Act.put, List.setIfInBounds_toArray, List.set_cons_zero, List.set_cons_succ])
    refine' wpRel_fix (by rfl) (fun U => by rfl) (fun m U w' hI hG => ?_) ?_
    rotate_left
    · have hf := HF.out w' hI
      unfold relAt
      go_simp
      clear hf
      exact Calls.mono (lvLog_yes ⟨xf, ⟨xa, xc, xs⟩⟩ ⟨f, ⟨a, c, s⟩⟩ w' (LLog.belowAll AX.out hI) (LLog.belowAll AL.out hI) (EX.out.trans HL.out.symm)) fun e w'' h => ⟨h.1, h.2⟩
    simp only [Act.put, List.setIfInBounds_toArray, List.set_cons_zero, List.set_cons_succ]
    first
      | (refine wpRel_pass (by rfl) (fun U => by rfl) ?_; simp only [Act.put, List.setIfInBounds_toArray, List.set_cons_zero, List.set_cons_succ])
      | (refine' wpRel_fix (by rfl) (fun U => by rfl) (fun m U w' hI hG => ?_) ?_
         rotate_left
         focus (have hf := HF.out w' hI; unfold relAt; go_simp; first | exact ⟨rfl, Below.refl _ _⟩ | exact Below.refl _ _ | exact ⟨trivial, Below.refl _ _⟩)
         simp only [Act.put, List.setIfInBounds_toArray, List.set_cons_zero, List.set_cons_succ])
    first
      | (refine wpRel_pass (by rfl) (fun U => by rfl) ?_; simp only [Act.put, List.setIfInBounds_toArray, List.set_cons_zero, List.set_cons_succ])
      | (refine' wpRel_fix (by rfl) (fun U => by rfl) (fun m U w' hI hG => ?_) ?_
         rotate_left
         focus (have hf := HF.out w' hI; unfold relAt; go_simp; first | exact ⟨rfl, Below.refl _ _⟩ | exact Below.refl _ _ | exact ⟨trivial, Below.refl _ _⟩)
         simp only [Act.put, List.setIfInBounds_toArray, List.set_cons_zero, List.set_cons_succ])
    first
      | (refine wpRel_pass (by rfl) (fun U => by rfl) ?_; simp only [Act.put, List.setIfInBounds_toArray, List.set_cons_zero, List.set_cons_succ])
      | (refine' wpRel_fix (by rfl) (fun U => by rfl) (fun m U w' hI hG => ?_) ?_
         rotate_left
         focus (have hf := HF.out w' hI; unfold relAt; go_simp; first | exact ⟨rfl, Below.refl _ _⟩ | exact Below.refl _ _ | exact ⟨trivial, Below.refl _ _⟩)
         simp only [Act.put, List.setIfInBounds_toArray, List.set_cons_zero, List.set_cons_succ])
    first
      | (refine wpRel_pass (by rfl) (fun U => by rfl) ?_; simp only [Act.put, List.setIfInBounds_toArray, List.set_cons_zero, List.set_cons_succ])
      | (refine' wpRel_fix (by rfl) (fun U => by rfl) (fun m U w' hI hG => ?_) ?_
         rotate_left
         focus (have hf := HF.out w' hI; unfold relAt; go_simp; first | exact ⟨rfl, Below.refl _ _⟩ | exact Below.refl _ _ | exact ⟨trivial, Below.refl _ _⟩)
         simp only [Act.put, List.setIfInBounds_toArray, List.set_cons_zero, List.set_cons_succ])
    refine wpRel_rel (LogR (L)) rfl (LogR.stable _) (by rfl) (fun U => by rfl) (fun m U w' hI hG => ?_) ?_
    · have hf := HF.out w' hI
      unfold relAt
      go_simp
      clear hf
      exact Calls.mono (HCX.out w' (LLog.belowAll AL.out hI)) fun e w'' ⟨y, he, hy, hA, _, hb⟩ => ⟨⟨_, he, y, rfl, hy, hA⟩, hb⟩
    simp only [Act.put, List.setIfInBounds_toArray, List.set_cons_zero, List.set_cons_succ]
    first
      | (refine wpRel_pass (by rfl) (fun U => by rfl) ?_; simp only [Act.put, List.setIfInBounds_toArray, List.set_cons_zero, List.set_cons_succ])
      | (refine' wpRel_fix (by rfl) (fun U => by rfl) (fun m U w' hI hG => ?_) ?_
         rotate_left
         focus (have hf := HF.out w' hI; unfold relAt; go_simp; first | exact ⟨rfl, Below.refl _ _⟩ | exact Below.refl _ _ | exact ⟨trivial, Below.refl _ _⟩)
         simp only [Act.put, List.setIfInBounds_toArray, List.set_cons_zero, List.set_cons_succ])
    refine' wpRel_fix (by rfl) (fun U => by rfl) (fun m U w' hI hG => ?_) ?_
    rotate_left
    · obtain ⟨y, hv, hy, hA⟩ := hG _ (List.Mem.head _) (by rfl)
      simp only at hv
      have hf := HF.out w' hI
      unfold relAt
      simp only [hv]
      go_simp
      clear hf
      exact Calls.mono (lvLog_yes y ⟨f, ⟨a, c, s⟩⟩ w' hA (LLog.belowAll AL.out hI) (hy.trans HL.out.symm)) fun e w'' h => ⟨h.1, h.2⟩
    simp only [Act.put, List.setIfInBounds_toArray, List.set_cons_zero, List.set_cons_succ]
    first
      | (refine wpRel_pass (by rfl) (fun U => by rfl) ?_; simp only [Act.put, List.setIfInBounds_toArray, List.set_cons_zero, List.set_cons_succ])
      | (refine' wpRel_fix (by rfl) (fun U => by rfl) (fun m U w' hI hG => ?_) ?_
         rotate_left
         focus (have hf := HF.out w' hI; unfold relAt; go_simp; first | exact ⟨rfl, Below.refl _ _⟩ | exact Below.refl _ _ | exact ⟨trivial, Below.refl _ _⟩)
         simp only [Act.put, List.setIfInBounds_toArray, List.set_cons_zero, List.set_cons_succ])
    first
      | (refine wpRel_pass (by rfl) (fun U => by rfl) ?_; simp only [Act.put, List.setIfInBounds_toArray, List.set_cons_zero, List.set_cons_succ])
      | (refine' wpRel_fix (by rfl) (fun U => by rfl) (fun m U w' hI hG => ?_) ?_
         rotate_left
         focus (have hf := HF.out w' hI; unfold relAt; go_simp; first | exact ⟨rfl, Below.refl _ _⟩ | exact Below.refl _ _ | exact ⟨trivial, Below.refl _ _⟩)
         simp only [Act.put, List.setIfInBounds_toArray, List.set_cons_zero, List.set_cons_succ])
    intro U w7 hI hG
    replace hI : Below w6.heap.size w6 w7 := hI
    replace B := Lib.hid (nextB B.out (hI))
    replace AL := Lib.hid (LLog.belowAll AL.out (hI))
    replace BL := Lib.hid (BL.out.keep (hI))
    replace AX := Lib.hid (LLog.belowAll AX.out (hI))
    replace BX := Lib.hid (BX.out.keep (hI))
    go_wp2_with fail
    go_ret
    exact ⟨rfl, B.out⟩
end Go.Proofs.YtdbejmnfnbkndaaDoor
