/- vvIn, slices.Equal at ints, compareSibs, isSuperseded. -/
import Derived.Test.YtdidkfadiaafiaaGreatDoorCmp
namespace Go.Proofs.YtdidkfadiaafiaaGreatDoor
open Go Go.RowKit

def vvInL : List Int → List Int → Bool
  | a :: p, b :: q => decide (a ≤ b) && vvInL p q
  | _, _ => true

set_option maxHeartbeats 400000 in
theorem vvIn_any (x y : Loc Int) (w : World) (hx : x.At w) (hy : y.At w) (hle : x.xs.length ≤ y.xs.length) :
    Calls Tryz.prog 115 #[x.val, y.val] w fun e w' => e = .returned (.bool (vvInL x.xs y.xs)) ∧ w = w' := by
  obtain ⟨xa, xc, xs⟩ := x
  obtain ⟨ya, yc, ys⟩ := y
  simp only [Loc.val]
  have h1 := hx.lenMax
  have h2 := hy.lenMax
  simp only at h1 h2 hle
  go_enter Tryz.func115, Tryz.ntmps115
  go_wp2_with fail
  go_loop [9] (fun i => ∃ k : Nat, k ≤ xs.length ∧ i = .int .i64 k ∧ vvInL xs ys = vvInL (xs.drop k) (ys.drop k)) (fun i => xs.length - (intOf i).toNat)
  case atStart => exact ⟨0, Nat.zero_le _, rfl, rfl⟩
  case round =>
    obtain ⟨k, hk, rfl, hrel⟩ := hrel
    have HR := Lib.hid hrel
    clear hrel
    by_cases hlt : k < xs.length
    · obtain ⟨a, ao, ha⟩ := hx.place hlt
      have hlt2 : k < ys.length := by omega
      obtain ⟨b, bo, hb⟩ := hy.place hlt2
      simp only at ha hb
      subst ha hb
      have hc1 := hx.int rfl hlt
      have hc2 := hy.int rfl hlt2
      simp only at hc1 hc2
      have HC : Hid (vvInL (xs.drop k) (ys.drop k) = (decide (xs[k] ≤ ys[k]) && vvInL (xs.drop (k + 1)) (ys.drop (k + 1)))) := by
        show _ = _
        rw [List.drop_eq_getElem_cons hlt, List.drop_eq_getElem_cons hlt2]; rfl
      by_cases he : ys[k] < xs[k]
      · go_wp2_with fail
        go_ret
        exact ⟨ret_bool (by rw [HR.out, HC.out, decide_eq_false (by omega)]; rfl), rfl⟩
      · go_wp2_with fail
        go_round
        case rel => exact ⟨k + 1, by omega, by go_num, by rw [HR.out, HC.out, decide_eq_true (by omega)]; rfl⟩
        case measure => simp [intOf]; omega
    · have HK := Lib.hid (show k = xs.length by omega)
      go_wp2_with fail
      go_ret
      exact ⟨ret_bool (by rw [HR.out, List.drop_of_length_le (by rw [HK.out]; exact Nat.le_refl _)]; rfl), rfl⟩

set_option maxHeartbeats 400000 in
theorem equalInts_any (x y : Loc Int) (w : World) (hx : x.At w) (hy : y.At w) :
    Calls Tryz.prog 116 #[x.val, y.val] w fun e w' => e = .returned (.bool (decide (x.xs = y.xs))) ∧ ∃ n, w' = w.drewN n := by
  obtain ⟨xa, xc, xs⟩ := x
  obtain ⟨ya, yc, ys⟩ := y
  simp only [Loc.val]
  have h1 := hx.lenMax
  have h2 := hy.lenMax
  simp only at h1 h2
  by_cases hl : xs.length = ys.length
  · have hl1 : (((xs.length : Nat) : Int) != (ys.length : Nat)) = false := by simp [hl]
    have HL := Lib.hid hl
    clear hl
    go_enter Tryz.func116, Tryz.ntmps116
    go_wp2_with fail
    go_loopw [13] (fun i wr => ∃ k : Nat, k ≤ xs.length ∧ i = .int .i64 k ∧ xs.take k = ys.take k ∧ ∃ n, wr = w.drewN n) (fun i _ => xs.length - (intOf i).toNat)
    case atStart => exact ⟨0, Nat.zero_le _, rfl, rfl, 0, rfl⟩
    case round =>
      obtain ⟨k, hk, rfl, hrel, n, rfl⟩ := hrel
      have HR := Lib.hid hrel
      clear hrel
      by_cases hlt : k < xs.length
      · have hlt2 : k < ys.length := by have := HL.out; omega
        obtain ⟨a, ao, ha⟩ := hx.place hlt
        obtain ⟨b, bo, hb⟩ := hy.place hlt2
        simp only at ha hb
        subst ha hb
        have hc1 := hx.int rfl hlt
        have hc2 := hy.int rfl hlt2
        simp only at hc1 hc2
        by_cases he : xs[k] = ys[k]
        · have he1 : (xs[k] != ys[k]) = false := by simp [he]
          have HE := Lib.hid he
          clear he
          go_wp2_with fail
          go_quiet (fail)
          go_wp2_with fail
          go_roundw
          case rel => exact ⟨k + 1, by omega, by go_num, take_succ_eq HR.out hlt hlt2 HE.out, _, rfl⟩
          case measure => simp [intOf]; omega
        · have he1 : (xs[k] != ys[k]) = true := by simp [he]
          have HE := Lib.hid he
          clear he
          go_wp2_with fail
          go_quiet (fail)
          go_wp2_with fail
          go_ret
          exact ⟨ret_bool (decide_eq_false (fun h => HE.out (by cases h; rfl))).symm, _, by first | rfl | exact World.drewN_drewN _ _ _⟩
      · have HK := Lib.hid (show k = xs.length by omega)
        go_wp2_with fail
        go_ret
        refine ⟨ret_bool (decide_eq_true ?_).symm, _, rfl⟩
        have h1 := HR.out
        have h2 := HL.out
        rwa [HK.out, List.take_length, h2, List.take_length] at h1
  · have hl1 : (((xs.length : Nat) : Int) != (ys.length : Nat)) = true := by simp; omega
    have HL := Lib.hid hl
    clear hl
    go_enter Tryz.func116, Tryz.ntmps116
    go_wp2_with fail
    go_ret
    exact ⟨ret_bool (decide_eq_false (fun h => HL.out (by rw [h]))).symm, 0, rfl⟩

def goneNo (g : Bool) : Int := if g then 0 else 1

theorem gone_any (x : LSib) (w : World) : Calls Tryz.prog 109 #[x.val] w fun e w' => e = .returned (.int .i64 (goneNo x.gone)) ∧ Below w.heap.size w w' := by
  obtain ⟨xv, xg, xt⟩ := x
  simp only [LSib.val]
  cases xg
  all_goals
    go_enter Tryz.func109, Tryz.ntmps109
    go_wp2_with fail
    go_ret
    exact ⟨rfl, (Below.refl _ _).alloc (Nat.le_refl _) _⟩

def cmpSib (a b : Sib) : Int := orInts [cmpInts a.vv b.vv, cmpInt (goneNo a.gone) (goneNo b.gone), cmpStr a.text b.text]

set_option maxRecDepth 100000 in
set_option maxHeartbeats 1000000 in
theorem cmpSib_any (x y : LSib) (w : World) (hx : Dat.At w x) (hy : Dat.At w y) :
    Calls Tryz.prog 80 #[x.val, y.val] w fun e w' => e = .returned (.int .i64 (cmpSib x.er y.er)) ∧ Below w.heap.size w w' := by
  obtain ⟨xv, xg, xt⟩ := x
  obtain ⟨yv, yg, yt⟩ := y
  simp only [LSib.val]
  go_enter Tryz.func80, Tryz.ntmps80
  go_wp2_with fail
  have hB0 : Below w.heap.size w ((w.alloc (Obj.cells #[xv.val, Value.bool xg, Value.string xt] 42)).alloc (Obj.cells #[yv.val, Value.bool yg, Value.string yt] 42)) :=
    ((Below.refl _ _).alloc (Nat.le_refl _) _).alloc (by simp) _
  have hF : ∀ w', Below (w.heap.size + 2) ((w.alloc (Obj.cells #[xv.val, Value.bool xg, Value.string xt] 42)).alloc (Obj.cells #[yv.val, Value.bool yg, Value.string yt] 42)) w' →
      (w'.cell? ⟨w.heap.size, 0, none⟩ = some xv.val ∧ w'.cell? ⟨w.heap.size, 1, none⟩ = some (.bool xg) ∧ w'.cell? ⟨w.heap.size, 2, none⟩ = some (.string xt)) ∧
      (w'.cell? ⟨w.heap.size + 1, 0, none⟩ = some yv.val ∧ w'.cell? ⟨w.heap.size + 1, 1, none⟩ = some (.bool yg) ∧ w'.cell? ⟨w.heap.size + 1, 2, none⟩ = some (.string yt)) := by
    intro w' h
    refine ⟨⟨?_, ?_, ?_⟩, ?_, ?_, ?_⟩ <;> (rw [h.cell (by simp)]; go_simp)
  have HF := Lib.hid hF
  have HB := Lib.hid hB0
  clear hF hB0
  refine wp_region_inv 17 (by kernel_rfl) (by kernel_rfl) (fun w' => Below (w.heap.size + 2) ((w.alloc (Obj.cells #[xv.val, Value.bool xg, Value.string xt] 42)).alloc (Obj.cells #[yv.val, Value.bool yg, Value.string yt] 42)) w') (Below.refl _ _).drew ?_
  simp only [List.take_succ_cons, List.take_zero, List.drop_succ_cons, List.drop_zero]
  refine' wpInv_step (by rfl) (fun w' hI => ?_) ?_
  rotate_left
  · have hf := HF.out w' hI
    unfold invAt
    go_simp
    first | exact rfl | exact ⟨rfl, hI⟩
  simp only [Act.put, List.setIfInBounds_toArray, List.set_cons_zero, List.set_cons_succ]
  refine' wpInv_step (by rfl) (fun w' hI => ?_) ?_
  rotate_left
  · have hf := HF.out w' hI
    unfold invAt
    go_simp
    first | exact rfl | exact ⟨rfl, hI⟩
  simp only [Act.put, List.setIfInBounds_toArray, List.set_cons_zero, List.set_cons_succ]
  refine' wpInv_step (by rfl) (fun w' hI => ?_) ?_
  rotate_left
  · have hf := HF.out w' hI
    unfold invAt
    go_simp
    first | exact rfl | exact ⟨rfl, hI⟩
  simp only [Act.put, List.setIfInBounds_toArray, List.set_cons_zero, List.set_cons_succ]
  refine' wpInv_step (by rfl) (fun w' hI => ?_) ?_
  rotate_left
  · have hf := HF.out w' hI
    unfold invAt
    go_simp
    first | exact rfl | exact ⟨rfl, hI⟩
  simp only [Act.put, List.setIfInBounds_toArray, List.set_cons_zero, List.set_cons_succ]
  refine' wpInv_step (by rfl) (fun w' hI => ?_) ?_
  rotate_left
  · have hf := HF.out w' hI
    unfold invAt
    go_simp
    clear hf
    refine (cmpInts_any xv yv w' ((Loc.At.belowAll hx.1 HB.out).belowAll (hI.mono (by simp))) ((Loc.At.belowAll hy.1 HB.out).belowAll (hI.mono (by simp)))).mono ?_
    rintro e w'' ⟨rfl, rfl⟩
    exact ⟨rfl, hI⟩
  simp only [Act.put, List.setIfInBounds_toArray, List.set_cons_zero, List.set_cons_succ]
  refine' wpInv_step (by rfl) (fun w' hI => ?_) ?_
  rotate_left
  · have hf := HF.out w' hI
    unfold invAt
    go_simp
    first | exact rfl | exact ⟨rfl, hI⟩
  simp only [Act.put, List.setIfInBounds_toArray, List.set_cons_zero, List.set_cons_succ]
  refine' wpInv_step (by rfl) (fun w' hI => ?_) ?_
  rotate_left
  · have hf := HF.out w' hI
    unfold invAt
    go_simp
    first | exact rfl | exact ⟨rfl, hI⟩
  simp only [Act.put, List.setIfInBounds_toArray, List.set_cons_zero, List.set_cons_succ]
  refine' wpInv_step (by rfl) (fun w' hI => ?_) ?_
  rotate_left
  · have hf := HF.out w' hI
    unfold invAt
    go_simp
    clear hf
    refine (gone_any ⟨xv, xg, xt⟩ w').mono ?_
    rintro e w'' ⟨rfl, hb⟩
    exact ⟨rfl, hI.trans (hb.mono (by have := hI.size; simpa using this))⟩
  simp only [Act.put, List.setIfInBounds_toArray, List.set_cons_zero, List.set_cons_succ]
  refine' wpInv_step (by rfl) (fun w' hI => ?_) ?_
  rotate_left
  · have hf := HF.out w' hI
    unfold invAt
    go_simp
    first | exact rfl | exact ⟨rfl, hI⟩
  simp only [Act.put, List.setIfInBounds_toArray, List.set_cons_zero, List.set_cons_succ]
  refine' wpInv_step (by rfl) (fun w' hI => ?_) ?_
  rotate_left
  · have hf := HF.out w' hI
    unfold invAt
    go_simp
    first | exact rfl | exact ⟨rfl, hI⟩
  simp only [Act.put, List.setIfInBounds_toArray, List.set_cons_zero, List.set_cons_succ]
  refine' wpInv_step (by rfl) (fun w' hI => ?_) ?_
  rotate_left
  · have hf := HF.out w' hI
    unfold invAt
    go_simp
    clear hf
    refine (gone_any ⟨yv, yg, yt⟩ w').mono ?_
    rintro e w'' ⟨rfl, hb⟩
    exact ⟨rfl, hI.trans (hb.mono (by have := hI.size; simpa using this))⟩
  simp only [Act.put, List.setIfInBounds_toArray, List.set_cons_zero, List.set_cons_succ]
  refine' wpInv_step (by rfl) (fun w' hI => ?_) ?_
  rotate_left
  · have hf := HF.out w' hI
    unfold invAt
    go_simp
    clear hf
    refine (cmpInt_any _ _ w').mono ?_
    rintro e w'' ⟨rfl, rfl⟩
    exact ⟨rfl, hI⟩
  simp only [Act.put, List.setIfInBounds_toArray, List.set_cons_zero, List.set_cons_succ]
  refine' wpInv_step (by rfl) (fun w' hI => ?_) ?_
  rotate_left
  · have hf := HF.out w' hI
    unfold invAt
    go_simp
    first | exact rfl | exact ⟨rfl, hI⟩
  simp only [Act.put, List.setIfInBounds_toArray, List.set_cons_zero, List.set_cons_succ]
  refine' wpInv_step (by rfl) (fun w' hI => ?_) ?_
  rotate_left
  · have hf := HF.out w' hI
    unfold invAt
    go_simp
    first | exact rfl | exact ⟨rfl, hI⟩
  simp only [Act.put, List.setIfInBounds_toArray, List.set_cons_zero, List.set_cons_succ]
  refine' wpInv_step (by rfl) (fun w' hI => ?_) ?_
  rotate_left
  · have hf := HF.out w' hI
    unfold invAt
    go_simp
    first | exact rfl | exact ⟨rfl, hI⟩
  simp only [Act.put, List.setIfInBounds_toArray, List.set_cons_zero, List.set_cons_succ]
  refine' wpInv_step (by rfl) (fun w' hI => ?_) ?_
  rotate_left
  · have hf := HF.out w' hI
    unfold invAt
    go_simp
    first | exact rfl | exact ⟨rfl, hI⟩
  simp only [Act.put, List.setIfInBounds_toArray, List.set_cons_zero, List.set_cons_succ]
  refine' wpInv_step (by rfl) (fun w' hI => ?_) ?_
  rotate_left
  · have hf := HF.out w' hI
    unfold invAt
    go_simp
    clear hf
    refine (cmpStr_any _ _ w').mono ?_
    rintro e w'' ⟨rfl, rfl⟩
    exact ⟨rfl, hI⟩
  simp only [Act.put, List.setIfInBounds_toArray, List.set_cons_zero, List.set_cons_succ]
  intro w1 hI
  have hS := hI.size
  generalize hA : cmpInts xv.xs yv.xs = A
  generalize hB : cmpInt (goneNo xg) (goneNo yg) = B
  generalize hC : cmpStr xt yt = C
  have HA := Lib.hid hA
  have HBB := Lib.hid hB
  have HC := Lib.hid hC
  clear hA hB hC
  have hAt := new_At w1 [A, B, C] #[.int .i64 A, .int .i64 B, .int .i64 C] 3 rfl (by simp [maxLen]) (fun _ _ => trivial)
  have HAt := Lib.hid hAt
  clear hAt
  go_wp2_with (go_at_call 110; refine (orInts_any ⟨some ⟨w1.heap.size, 0, none⟩, 3, [A, B, C]⟩ _ HAt.out).mono ?_; rintro e w' ⟨rfl, rfl⟩)
  go_ret
  refine ⟨ret_int ?_, ?_⟩
  · rw [cmpSib, ← HA.out, ← HBB.out, ← HC.out]; rfl
  · exact (HB.out.trans (hI.mono (by simp))).alloc (by simp at hS; omega) _
end Go.Proofs.YtdidkfadiaafiaaGreatDoor
