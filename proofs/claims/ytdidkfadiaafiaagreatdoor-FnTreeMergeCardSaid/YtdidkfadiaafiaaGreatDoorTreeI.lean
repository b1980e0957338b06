/- isTree: what it answers. -/
import Derived.Test.YtdidkfadiaafiaaGreatDoorTree
namespace Go.Proofs.YtdidkfadiaafiaaGreatDoor
open Go Go.RowKit

set_option maxRecDepth 100000 in
set_option maxHeartbeats 4000000 in
theorem isTree_any (x : Loc LFile) (w : World) (hx : x.At w) :
    Calls Tryz.prog 33 #[x.val] w fun e w' => e = .returned (.bool (treeB (x.xs.map LFile.er))) ∧ Below w.heap.size w w' := by
  obtain ⟨xa, xc, xs⟩ := x
  simp only [Loc.val]
  have h1 := hx.lenMax
  simp only at h1
  go_enter Tryz.func33, Tryz.ntmps33
  go_wp2_with fail
  go_loopw [3, 4, 7] (fun _ _ i wr => ∃ k : Nat, k ≤ xs.length ∧ i = .int .i64 k ∧ (∀ j (h : j < k) (h' : j < xs.length), nameB xs[j].name = true ∧ sibsB (xs[j].sibs.xs.map LSib.er) = true ∧ ∀ m (hm : m + 1 = j), strLt xs[m].name xs[j].name = true) ∧ Below w.heap.size w wr) (fun _ _ i _ => xs.length - (intOf i).toNat)
  case atStart => exact ⟨0, Nat.zero_le _, rfl, fun j h => absurd h (by omega), Below.refl _ _⟩
  case round =>
    obtain ⟨k, hk, rfl, hrel, hb⟩ := hrel
    have HR := Lib.hid hrel
    clear hrel
    by_cases hlt : k < xs.length
    · obtain ⟨a, ao, ha⟩ := hx.place hlt
      simp only at ha
      subst ha
      obtain ⟨c0, c1⟩ := (hx.belowAll hb).file rfl hlt
      simp only at c0 c1
      have hAt := Lib.hid ((hx.belowAll hb).elem (List.getElem_mem hlt))
      have hW : Below wr.heap.size wr (wr.alloc (Obj.cells #[Value.string xs[k].name, xs[k].sibs.val] 58)) ∧ (wr.alloc (Obj.cells #[Value.string xs[k].name, xs[k].sibs.val] 58)).heap.size = wr.heap.size + 1 ∧
          (∀ j, (wr.alloc (Obj.cells #[Value.string xs[k].name, xs[k].sibs.val] 58)).cell? ⟨wr.heap.size, j, none⟩ = #[Value.string xs[k].name, xs[k].sibs.val][j]?) :=
        ⟨(Below.refl _ _).alloc (Nat.le_refl _) _, by simp, fun j => cell_of_row _ _ _ _ _ (0, 0) (heap_alloc_new wr _)⟩
      have HW := Lib.hid hW
      clear hW
      cases hs : nameB xs[k].name with
      | false =>
        have HS := Lib.hid hs
        clear hs
        go_wp2_with fail
        generalize wr.alloc (Obj.cells #[Value.string xs[k].name, xs[k].sibs.val] 58) = W1 at HW ⊢
        have HF : Hid (∀ w', Below (wr.heap.size + 1) W1 w' → (w'.cell? ⟨wr.heap.size, 0, none⟩ = some (.string xs[k].name) ∧ w'.cell? ⟨wr.heap.size, 1, none⟩ = some xs[k].sibs.val)) := by
          intro w' h
          refine ⟨?_, ?_⟩ <;> (rw [h.cell (by simp), HW.out.2.2]; rfl)
        refine wp_region_inv 25 (by kernel_rfl) (by kernel_rfl) (fun w' => Below (wr.heap.size + 1) W1 w') (Below.refl _ _).drew ?_
        simp only [List.take_succ_cons, List.take_zero, List.drop_succ_cons, List.drop_zero]
        refine' wpInv_step (by rfl) (fun w' hI => ?_) ?_
        rotate_left
        · have hf := HF.out w' hI
          unfold invAt
          go_simp
          first | exact rfl | exact ⟨rfl, hI⟩
        simp only [Act.put, List.setIfInBounds_toArray, List.set_cons_zero, List.set_cons_succ]
        refine' wpInv_step (by rfl) (fun w' hI => ?_) ?_
        rotate_left
        · have hf := HF.out w' hI
          unfold invAt
          go_simp
          first | exact rfl | exact ⟨rfl, hI⟩
        simp only [Act.put, List.setIfInBounds_toArray, List.set_cons_zero, List.set_cons_succ]
        refine' wpInv_step (by rfl) (fun w' hI => ?_) ?_
        rotate_left
        · have hf := HF.out w' hI
          unfold invAt
          go_simp
          clear hf
          refine (isFileName_any xs[k].name w' hAt.out.2).mono ?_
          rw [HS.out]
          rintro e w'' ⟨rfl, rfl⟩
          exact ⟨rfl, hI⟩
        simp only [Act.put, List.setIfInBounds_toArray, List.set_cons_zero, List.set_cons_succ]
        refine' wpInv_step (by rfl) (fun w' hI => ?_) ?_
        rotate_left
        · have hf := HF.out w' hI
          unfold invAt
          go_simp
          first | exact rfl | exact ⟨rfl, hI⟩
        simp only [Act.put, List.setIfInBounds_toArray, List.set_cons_zero, List.set_cons_succ]
        refine' wpInv_step (by rfl) (fun w' hI => ?_) ?_
        rotate_left
        · have hf := HF.out w' hI
          unfold invAt
          go_simp
          first | exact rfl | exact ⟨rfl, hI⟩
        simp only [Act.put, List.setIfInBounds_toArray, List.set_cons_zero, List.set_cons_succ]
        refine wpInv_pass (by rfl) ?_
        simp only [Act.put, List.setIfInBounds_toArray, List.set_cons_zero, List.set_cons_succ]
        refine wpInv_pass (by rfl) ?_
        simp only [Act.put, List.setIfInBounds_toArray, List.set_cons_zero, List.set_cons_succ]
        refine wpInv_pass (by rfl) ?_
        simp only [Act.put, List.setIfInBounds_toArray, List.set_cons_zero, List.set_cons_succ]
        refine wpInv_pass (by rfl) ?_
        simp only [Act.put, List.setIfInBounds_toArray, List.set_cons_zero, List.set_cons_succ]
        refine' wpInv_step (by rfl) (fun w' hI => ?_) ?_
        rotate_left
        · have hf := HF.out w' hI
          unfold invAt
          go_simp
          first | exact rfl | exact ⟨rfl, hI⟩
        simp only [Act.put, List.setIfInBounds_toArray, List.set_cons_zero, List.set_cons_succ]
        refine' wpInv_step (by rfl) (fun w' hI => ?_) ?_
        rotate_left
        · have hf := HF.out w' hI
          unfold invAt
          go_simp
          first | exact rfl | exact ⟨rfl, hI⟩
        simp only [Act.put, List.setIfInBounds_toArray, List.set_cons_zero, List.set_cons_succ]
        refine wpInv_pass (by rfl) ?_
        simp only [Act.put, List.setIfInBounds_toArray, List.set_cons_zero, List.set_cons_succ]
        refine wpInv_pass (by rfl) ?_
        simp only [Act.put, List.setIfInBounds_toArray, List.set_cons_zero, List.set_cons_succ]
        refine wpInv_pass (by rfl) ?_
        simp only [Act.put, List.setIfInBounds_toArray, List.set_cons_zero, List.set_cons_succ]
        refine wpInv_pass (by rfl) ?_
        simp only [Act.put, List.setIfInBounds_toArray, List.set_cons_zero, List.set_cons_succ]
        refine wpInv_pass (by rfl) ?_
        simp only [Act.put, List.setIfInBounds_toArray, List.set_cons_zero, List.set_cons_succ]
        refine wpInv_pass (by rfl) ?_
        simp only [Act.put, List.setIfInBounds_toArray, List.set_cons_zero, List.set_cons_succ]
        refine wpInv_pass (by rfl) ?_
        simp only [Act.put, List.setIfInBounds_toArray, List.set_cons_zero, List.set_cons_succ]
        refine wpInv_pass (by rfl) ?_
        simp only [Act.put, List.setIfInBounds_toArray, List.set_cons_zero, List.set_cons_succ]
        refine wpInv_pass (by rfl) ?_
        simp only [Act.put, List.setIfInBounds_toArray, List.set_cons_zero, List.set_cons_succ]
        refine wpInv_pass (by rfl) ?_
        simp only [Act.put, List.setIfInBounds_toArray, List.set_cons_zero, List.set_cons_succ]
        refine wpInv_pass (by rfl) ?_
        simp only [Act.put, List.setIfInBounds_toArray, List.set_cons_zero, List.set_cons_succ]
        refine wpInv_pass (by rfl) ?_
        simp only [Act.put, List.setIfInBounds_toArray, List.set_cons_zero, List.set_cons_succ]
        refine wpInv_pass (by rfl) ?_
        simp only [Act.put, List.setIfInBounds_toArray, List.set_cons_zero, List.set_cons_succ]
        refine' wpInv_step (by rfl) (fun w' hI => ?_) ?_
        rotate_left
        · have hf := HF.out w' hI
          unfold invAt
          go_simp
          first | exact rfl | exact ⟨rfl, hI⟩
        simp only [Act.put, List.setIfInBounds_toArray, List.set_cons_zero, List.set_cons_succ]
        intro w1 hI
        go_wp2_with fail
        go_ret
        refine ⟨ret_bool (treeB_false fun h => ?_).symm, (hb.trans (HW.out.1.mono hb.size)).trans (hI.mono (by have := hb.size; omega))⟩
        have := h.name k (by simpa using hlt)
        rw [List.getElem_map] at this
        rw [LFile.er, HS.out] at this
        cases this
      | true =>
        have HS := Lib.hid hs
        clear hs
        cases ht : sibsB (xs[k].sibs.xs.map LSib.er) with
        | false =>
          have HT := Lib.hid ht
          clear ht
          go_wp2_with fail
          generalize wr.alloc (Obj.cells #[Value.string xs[k].name, xs[k].sibs.val] 58) = W1 at HW ⊢
          have HF : Hid (∀ w', Below (wr.heap.size + 1) W1 w' → (w'.cell? ⟨wr.heap.size, 0, none⟩ = some (.string xs[k].name) ∧ w'.cell? ⟨wr.heap.size, 1, none⟩ = some xs[k].sibs.val)) := by
            intro w' h
            refine ⟨?_, ?_⟩ <;> (rw [h.cell (by simp), HW.out.2.2]; rfl)
          refine wp_region_inv 25 (by kernel_rfl) (by kernel_rfl) (fun w' => Below (wr.heap.size + 1) W1 w') (Below.refl _ _).drew ?_
          simp only [List.take_succ_cons, List.take_zero, List.drop_succ_cons, List.drop_zero]
          refine' wpInv_step (by rfl) (fun w' hI => ?_) ?_
          rotate_left
          · have hf := HF.out w' hI
            unfold invAt
            go_simp
            first | exact rfl | exact ⟨rfl, hI⟩
          simp only [Act.put, List.setIfInBounds_toArray, List.set_cons_zero, List.set_cons_succ]
          refine' wpInv_step (by rfl) (fun w' hI => ?_) ?_
          rotate_left
          · have hf := HF.out w' hI
            unfold invAt
            go_simp
            first | exact rfl | exact ⟨rfl, hI⟩
          simp only [Act.put, List.setIfInBounds_toArray, List.set_cons_zero, List.set_cons_succ]
          refine' wpInv_step (by rfl) (fun w' hI => ?_) ?_
          rotate_left
          · have hf := HF.out w' hI
            unfold invAt
            go_simp
            clear hf
            refine (isFileName_any xs[k].name w' hAt.out.2).mono ?_
            rw [HS.out]
            rintro e w'' ⟨rfl, rfl⟩
            exact ⟨rfl, hI⟩
          simp only [Act.put, List.setIfInBounds_toArray, List.set_cons_zero, List.set_cons_succ]
          refine' wpInv_step (by rfl) (fun w' hI => ?_) ?_
          rotate_left
          · have hf := HF.out w' hI
            unfold invAt
            go_simp
            first | exact rfl | exact ⟨rfl, hI⟩
          simp only [Act.put, List.setIfInBounds_toArray, List.set_cons_zero, List.set_cons_succ]
          refine' wpInv_step (by rfl) (fun w' hI => ?_) ?_
          rotate_left
          · have hf := HF.out w' hI
            unfold invAt
            go_simp
            first | exact rfl | exact ⟨rfl, hI⟩
          simp only [Act.put, List.setIfInBounds_toArray, List.set_cons_zero, List.set_cons_succ]
          refine' wpInv_step (by rfl) (fun w' hI => ?_) ?_
          rotate_left
          · have hf := HF.out w' hI
            unfold invAt
            go_simp
            first | exact rfl | exact ⟨rfl, hI⟩
          simp only [Act.put, List.setIfInBounds_toArray, List.set_cons_zero, List.set_cons_succ]
          refine' wpInv_step (by rfl) (fun w' hI => ?_) ?_
          rotate_left
          · have hf := HF.out w' hI
            unfold invAt
            go_simp
            first | exact rfl | exact ⟨rfl, hI⟩
          simp only [Act.put, List.setIfInBounds_toArray, List.set_cons_zero, List.set_cons_succ]
          refine' wpInv_step (by rfl) (fun w' hI => ?_) ?_
          rotate_left
          · have hf := HF.out w' hI
            unfold invAt
            go_simp
            clear hf
            refine (areSibs_any xs[k].sibs w' (Loc.At.below (Loc.At.belowAll hAt.out.1 HW.out.1) hI (fun b hb => by have := Dat.lt (α := LFile) hAt.out b hb; omega))).mono ?_
            rw [HT.out]
            rintro e w'' ⟨rfl, hb2⟩
            exact ⟨rfl, hI.trans (hb2.mono (by have := hI.size; rw [HW.out.2.1] at this; exact this))⟩
          simp only [Act.put, List.setIfInBounds_toArray, List.set_cons_zero, List.set_cons_succ]
          refine' wpInv_step (by rfl) (fun w' hI => ?_) ?_
          rotate_left
          · have hf := HF.out w' hI
            unfold invAt
            go_simp
            first | exact rfl | exact ⟨rfl, hI⟩
          simp only [Act.put, List.setIfInBounds_toArray, List.set_cons_zero, List.set_cons_succ]
          refine' wpInv_step (by rfl) (fun w' hI => ?_) ?_
          rotate_left
          · have hf := HF.out w' hI
            unfold invAt
            go_simp
            first | exact rfl | exact ⟨rfl, hI⟩
          simp only [Act.put, List.setIfInBounds_toArray, List.set_cons_zero, List.set_cons_succ]
          refine' wpInv_step (by rfl) (fun w' hI => ?_) ?_
          rotate_left
          · have hf := HF.out w' hI
            unfold invAt
            go_simp
            first | exact rfl | exact ⟨rfl, hI⟩
          simp only [Act.put, List.setIfInBounds_toArray, List.set_cons_zero, List.set_cons_succ]
          refine wpInv_pass (by rfl) ?_
          simp only [Act.put, List.setIfInBounds_toArray, List.set_cons_zero, List.set_cons_succ]
          refine wpInv_pass (by rfl) ?_
          simp only [Act.put, List.setIfInBounds_toArray, List.set_cons_zero, List.set_cons_succ]
          refine wpInv_pass (by rfl) ?_
          simp only [Act.put, List.setIfInBounds_toArray, List.set_cons_zero, List.set_cons_succ]
          refine wpInv_pass (by rfl) ?_
          simp only [Act.put, List.setIfInBounds_toArray, List.set_cons_zero, List.set_cons_succ]
          refine wpInv_pass (by rfl) ?_
          simp only [Act.put, List.setIfInBounds_toArray, List.set_cons_zero, List.set_cons_succ]
          refine wpInv_pass (by rfl) ?_
          simp only [Act.put, List.setIfInBounds_toArray, List.set_cons_zero, List.set_cons_succ]
          refine wpInv_pass (by rfl) ?_
          simp only [Act.put, List.setIfInBounds_toArray, List.set_cons_zero, List.set_cons_succ]
          refine wpInv_pass (by rfl) ?_
          simp only [Act.put, List.setIfInBounds_toArray, List.set_cons_zero, List.set_cons_succ]
          refine wpInv_pass (by rfl) ?_
          simp only [Act.put, List.setIfInBounds_toArray, List.set_cons_zero, List.set_cons_succ]
          refine wpInv_pass (by rfl) ?_
          simp only [Act.put, List.setIfInBounds_toArray, List.set_cons_zero, List.set_cons_succ]
          refine wpInv_pass (by rfl) ?_
          simp only [Act.put, List.setIfInBounds_toArray, List.set_cons_zero, List.set_cons_succ]
          refine wpInv_pass (by rfl) ?_
          simp only [Act.put, List.setIfInBounds_toArray, List.set_cons_zero, List.set_cons_succ]
          refine wpInv_pass (by rfl) ?_
          simp only [Act.put, List.setIfInBounds_toArray, List.set_cons_zero, List.set_cons_succ]
          refine' wpInv_step (by rfl) (fun w' hI => ?_) ?_
          rotate_left
          · have hf := HF.out w' hI
            unfold invAt
            go_simp
            first | exact rfl | exact ⟨rfl, hI⟩
          simp only [Act.put, List.setIfInBounds_toArray, List.set_cons_zero, List.set_cons_succ]
          intro w1 hI
          go_wp2_with fail
          go_ret
          refine ⟨ret_bool (treeB_false fun h => ?_).symm, (hb.trans (HW.out.1.mono hb.size)).trans (hI.mono (by have := hb.size; omega))⟩
          have := h.sibs k (by simpa using hlt)
          rw [List.getElem_map] at this
          have h3 := sibsB_true this
          rw [LFile.er, HT.out] at h3
          cases h3
        | true =>
          have HT := Lib.hid ht
          clear ht
          by_cases hk0 : k = 0
          · have HK0 := Lib.hid hk0
            have hkz : decide ((0 : Int) < (k : Int)) = false := decide_eq_false (by omega)
            have hkz2 : decide (0 < k) = false := decide_eq_false (by omega)
            clear hk0
            go_wp2_with fail
            generalize wr.alloc (Obj.cells #[Value.string xs[k].name, xs[k].sibs.val] 58) = W1 at HW ⊢
            have HF : Hid (∀ w', Below (wr.heap.size + 1) W1 w' → (w'.cell? ⟨wr.heap.size, 0, none⟩ = some (.string xs[k].name) ∧ w'.cell? ⟨wr.heap.size, 1, none⟩ = some xs[k].sibs.val)) := by
              intro w' h
              refine ⟨?_, ?_⟩ <;> (rw [h.cell (by simp), HW.out.2.2]; rfl)
            refine wp_region_inv 25 (by kernel_rfl) (by kernel_rfl) (fun w' => Below (wr.heap.size + 1) W1 w') (Below.refl _ _).drew ?_
            simp only [List.take_succ_cons, List.take_zero, List.drop_succ_cons, List.drop_zero]
            refine' wpInv_step (by rfl) (fun w' hI => ?_) ?_
            rotate_left
            · have hf := HF.out w' hI
              unfold invAt
              go_simp
              first | exact rfl | exact ⟨rfl, hI⟩
            simp only [Act.put, List.setIfInBounds_toArray, List.set_cons_zero, List.set_cons_succ]
            refine' wpInv_step (by rfl) (fun w' hI => ?_) ?_
            rotate_left
            · have hf := HF.out w' hI
              unfold invAt
              go_simp
              first | exact rfl | exact ⟨rfl, hI⟩
            simp only [Act.put, List.setIfInBounds_toArray, List.set_cons_zero, List.set_cons_succ]
            refine' wpInv_step (by rfl) (fun w' hI => ?_) ?_
            rotate_left
            · have hf := HF.out w' hI
              unfold invAt
              go_simp
              clear hf
              refine (isFileName_any xs[k].name w' hAt.out.2).mono ?_
              rw [HS.out]
              rintro e w'' ⟨rfl, rfl⟩
              exact ⟨rfl, hI⟩
            simp only [Act.put, List.setIfInBounds_toArray, List.set_cons_zero, List.set_cons_succ]
            refine' wpInv_step (by rfl) (fun w' hI => ?_) ?_
            rotate_left
            · have hf := HF.out w' hI
              unfold invAt
              go_simp
              first | exact rfl | exact ⟨rfl, hI⟩
            simp only [Act.put, List.setIfInBounds_toArray, List.set_cons_zero, List.set_cons_succ]
            refine' wpInv_step (by rfl) (fun w' hI => ?_) ?_
            rotate_left
            · have hf := HF.out w' hI
              unfold invAt
              go_simp
              first | exact rfl | exact ⟨rfl, hI⟩
            simp only [Act.put, List.setIfInBounds_toArray, List.set_cons_zero, List.set_cons_succ]
            refine' wpInv_step (by rfl) (fun w' hI => ?_) ?_
            rotate_left
            · have hf := HF.out w' hI
              unfold invAt
              go_simp
              first | exact rfl | exact ⟨rfl, hI⟩
            simp only [Act.put, List.setIfInBounds_toArray, List.set_cons_zero, List.set_cons_succ]
            refine' wpInv_step (by rfl) (fun w' hI => ?_) ?_
            rotate_left
            · have hf := HF.out w' hI
              unfold invAt
              go_simp
              first | exact rfl | exact ⟨rfl, hI⟩
            simp only [Act.put, List.setIfInBounds_toArray, List.set_cons_zero, List.set_cons_succ]
            refine' wpInv_step (by rfl) (fun w' hI => ?_) ?_
            rotate_left
            · have hf := HF.out w' hI
              unfold invAt
              go_simp
              clear hf
              refine (areSibs_any xs[k].sibs w' (Loc.At.below (Loc.At.belowAll hAt.out.1 HW.out.1) hI (fun b hb => by have := Dat.lt (α := LFile) hAt.out b hb; omega))).mono ?_
              rw [HT.out]
              rintro e w'' ⟨rfl, hb2⟩
              exact ⟨rfl, hI.trans (hb2.mono (by have := hI.size; rw [HW.out.2.1] at this; exact this))⟩
            simp only [Act.put, List.setIfInBounds_toArray, List.set_cons_zero, List.set_cons_succ]
            refine' wpInv_step (by rfl) (fun w' hI => ?_) ?_
            rotate_left
            · have hf := HF.out w' hI
              unfold invAt
              go_simp
              first | exact rfl | exact ⟨rfl, hI⟩
            simp only [Act.put, List.setIfInBounds_toArray, List.set_cons_zero, List.set_cons_succ]
            refine' wpInv_step (by rfl) (fun w' hI => ?_) ?_
            rotate_left
            · have hf := HF.out w' hI
              unfold invAt
              go_simp
              first | exact rfl | exact ⟨rfl, hI⟩
            simp only [Act.put, List.setIfInBounds_toArray, List.set_cons_zero, List.set_cons_succ]
            refine' wpInv_step (by rfl) (fun w' hI => ?_) ?_
            rotate_left
            · have hf := HF.out w' hI
              unfold invAt
              go_simp
              first | exact rfl | exact ⟨rfl, hI⟩
            simp only [Act.put, List.setIfInBounds_toArray, List.set_cons_zero, List.set_cons_succ]
            refine' wpInv_step (by rfl) (fun w' hI => ?_) ?_
            rotate_left
            · have hf := HF.out w' hI
              unfold invAt
              go_simp
              first | exact rfl | exact ⟨rfl, hI⟩
            simp only [Act.put, List.setIfInBounds_toArray, List.set_cons_zero, List.set_cons_succ]
            refine' wpInv_step (by rfl) (fun w' hI => ?_) ?_
            rotate_left
            · have hf := HF.out w' hI
              unfold invAt
              go_simp
              first | exact rfl | exact ⟨rfl, hI⟩
            simp only [Act.put, List.setIfInBounds_toArray, List.set_cons_zero, List.set_cons_succ]
            refine' wpInv_step (by rfl) (fun w' hI => ?_) ?_
            rotate_left
            · have hf := HF.out w' hI
              unfold invAt
              go_simp
              first | exact rfl | exact ⟨rfl, hI⟩
            simp only [Act.put, List.setIfInBounds_toArray, List.set_cons_zero, List.set_cons_succ]
            refine wpInv_pass (by rfl) ?_
            simp only [Act.put, List.setIfInBounds_toArray, List.set_cons_zero, List.set_cons_succ]
            refine wpInv_pass (by rfl) ?_
            simp only [Act.put, List.setIfInBounds_toArray, List.set_cons_zero, List.set_cons_succ]
            refine wpInv_pass (by rfl) ?_
            simp only [Act.put, List.setIfInBounds_toArray, List.set_cons_zero, List.set_cons_succ]
            refine wpInv_pass (by rfl) ?_
            simp only [Act.put, List.setIfInBounds_toArray, List.set_cons_zero, List.set_cons_succ]
            refine wpInv_pass (by rfl) ?_
            simp only [Act.put, List.setIfInBounds_toArray, List.set_cons_zero, List.set_cons_succ]
            refine wpInv_pass (by rfl) ?_
            simp only [Act.put, List.setIfInBounds_toArray, List.set_cons_zero, List.set_cons_succ]
            refine wpInv_pass (by rfl) ?_
            simp only [Act.put, List.setIfInBounds_toArray, List.set_cons_zero, List.set_cons_succ]
            refine wpInv_pass (by rfl) ?_
            simp only [Act.put, List.setIfInBounds_toArray, List.set_cons_zero, List.set_cons_succ]
            refine wpInv_pass (by rfl) ?_
            simp only [Act.put, List.setIfInBounds_toArray, List.set_cons_zero, List.set_cons_succ]
            refine' wpInv_step (by rfl) (fun w' hI => ?_) ?_
            rotate_left
            · have hf := HF.out w' hI
              unfold invAt
              go_simp
              first | exact rfl | exact ⟨rfl, hI⟩
            simp only [Act.put, List.setIfInBounds_toArray, List.set_cons_zero, List.set_cons_succ]
            refine' wpInv_step (by rfl) (fun w' hI => ?_) ?_
            rotate_left
            · have hf := HF.out w' hI
              unfold invAt
              go_simp
              first | exact rfl | exact ⟨rfl, hI⟩
            simp only [Act.put, List.setIfInBounds_toArray, List.set_cons_zero, List.set_cons_succ]
            intro w1 hI
            go_wp2_with fail
            go_roundw
            case rel =>
              refine ⟨k + 1, by omega, by go_num, fun j hj hj' => ?_, (hb.trans (HW.out.1.mono hb.size)).trans (hI.mono (by have := hb.size; omega))⟩
              have hk0 := HK0.out
              obtain rfl : j = k := by omega
              exact ⟨HS.out, HT.out, fun m hm => by omega⟩
            case measure => simp [intOf]; omega
          · obtain ⟨m, rfl⟩ : ∃ m, k = m + 1 := ⟨k - 1, by omega⟩
            have hm : m < xs.length := by omega
            obtain ⟨d0, d1⟩ := (hx.belowAll hb).file rfl hm
            simp only at d0 d1
            have D0 := Lib.hid d0
            clear d0 d1 hk0
            have hwm : IntKind.i64.wrap ((m : Nat) : Int) = (m : Int) := IntWalk.i64_in _ (by omega)
            have hab : a < wr.heap.size := World.block_lt_of_cell? _ _ c0
            cases hc : strLt xs[m].name xs[m + 1].name with
            | true =>
              have HC := Lib.hid hc
              unfold strLt at hc
              go_wp2_with fail
              generalize wr.alloc (Obj.cells #[Value.string xs[m + 1].name, xs[m + 1].sibs.val] 58) = W1 at HW ⊢
              have HF : Hid (∀ w', Below (wr.heap.size + 1) W1 w' → (w'.cell? ⟨wr.heap.size, 0, none⟩ = some (.string xs[m + 1].name) ∧ w'.cell? ⟨wr.heap.size, 1, none⟩ = some xs[m + 1].sibs.val)∧ w'.cell? ⟨a, ao + m * 2, none⟩ = some (.string xs[m].name)) := by
                intro w' h
                refine ⟨⟨?_, ?_⟩, ?_⟩ <;> first | (rw [h.cell (by simp), HW.out.2.2]; rfl) | (rw [h.cell (by simp; omega), HW.out.1.cell (by simpa using hab)]; exact D0.out)
              refine wp_region_inv 25 (by kernel_rfl) (by kernel_rfl) (fun w' => Below (wr.heap.size + 1) W1 w') (Below.refl _ _).drew ?_
              simp only [List.take_succ_cons, List.take_zero, List.drop_succ_cons, List.drop_zero]
              refine' wpInv_step (by rfl) (fun w' hI => ?_) ?_
              rotate_left
              · have hf := HF.out w' hI
                unfold invAt
                go_simp
                first | exact rfl | exact ⟨rfl, hI⟩
              simp only [Act.put, List.setIfInBounds_toArray, List.set_cons_zero, List.set_cons_succ]
              refine' wpInv_step (by rfl) (fun w' hI => ?_) ?_
              rotate_left
              · have hf := HF.out w' hI
                unfold invAt
                go_simp
                first | exact rfl | exact ⟨rfl, hI⟩
              simp only [Act.put, List.setIfInBounds_toArray, List.set_cons_zero, List.set_cons_succ]
              refine' wpInv_step (by rfl) (fun w' hI => ?_) ?_
              rotate_left
              · have hf := HF.out w' hI
                unfold invAt
                go_simp
                clear hf
                refine (isFileName_any xs[m + 1].name w' hAt.out.2).mono ?_
                rw [HS.out]
                rintro e w'' ⟨rfl, rfl⟩
                exact ⟨rfl, hI⟩
              simp only [Act.put, List.setIfInBounds_toArray, List.set_cons_zero, List.set_cons_succ]
              refine' wpInv_step (by rfl) (fun w' hI => ?_) ?_
              rotate_left
              · have hf := HF.out w' hI
                unfold invAt
                go_simp
                first | exact rfl | exact ⟨rfl, hI⟩
              simp only [Act.put, List.setIfInBounds_toArray, List.set_cons_zero, List.set_cons_succ]
              refine' wpInv_step (by rfl) (fun w' hI => ?_) ?_
              rotate_left
              · have hf := HF.out w' hI
                unfold invAt
                go_simp
                first | exact rfl | exact ⟨rfl, hI⟩
              simp only [Act.put, List.setIfInBounds_toArray, List.set_cons_zero, List.set_cons_succ]
              refine' wpInv_step (by rfl) (fun w' hI => ?_) ?_
              rotate_left
              · have hf := HF.out w' hI
                unfold invAt
                go_simp
                first | exact rfl | exact ⟨rfl, hI⟩
              simp only [Act.put, List.setIfInBounds_toArray, List.set_cons_zero, List.set_cons_succ]
              refine' wpInv_step (by rfl) (fun w' hI => ?_) ?_
              rotate_left
              · have hf := HF.out w' hI
                unfold invAt
                go_simp
                first | exact rfl | exact ⟨rfl, hI⟩
              simp only [Act.put, List.setIfInBounds_toArray, List.set_cons_zero, List.set_cons_succ]
              refine' wpInv_step (by rfl) (fun w' hI => ?_) ?_
              rotate_left
              · have hf := HF.out w' hI
                unfold invAt
                go_simp
                clear hf
                refine (areSibs_any xs[m + 1].sibs w' (Loc.At.below (Loc.At.belowAll hAt.out.1 HW.out.1) hI (fun b hb => by have := Dat.lt (α := LFile) hAt.out b hb; omega))).mono ?_
                rw [HT.out]
                rintro e w'' ⟨rfl, hb2⟩
                exact ⟨rfl, hI.trans (hb2.mono (by have := hI.size; rw [HW.out.2.1] at this; exact this))⟩
              simp only [Act.put, List.setIfInBounds_toArray, List.set_cons_zero, List.set_cons_succ]
              refine' wpInv_step (by rfl) (fun w' hI => ?_) ?_
              rotate_left
              · have hf := HF.out w' hI
                unfold invAt
                go_simp
                first | exact rfl | exact ⟨rfl, hI⟩
              simp only [Act.put, List.setIfInBounds_toArray, List.set_cons_zero, List.set_cons_succ]
              refine' wpInv_step (by rfl) (fun w' hI => ?_) ?_
              rotate_left
              · have hf := HF.out w' hI
                unfold invAt
                go_simp
                first | exact rfl | exact ⟨rfl, hI⟩
              simp only [Act.put, List.setIfInBounds_toArray, List.set_cons_zero, List.set_cons_succ]
              refine' wpInv_step (by rfl) (fun w' hI => ?_) ?_
              rotate_left
              · have hf := HF.out w' hI
                unfold invAt
                go_simp
                first | exact rfl | exact ⟨rfl, hI⟩
              simp only [Act.put, List.setIfInBounds_toArray, List.set_cons_zero, List.set_cons_succ]
              refine' wpInv_step (by rfl) (fun w' hI => ?_) ?_
              rotate_left
              · have hf := HF.out w' hI
                unfold invAt
                go_simp
                first | exact rfl | exact ⟨rfl, hI⟩
              simp only [Act.put, List.setIfInBounds_toArray, List.set_cons_zero, List.set_cons_succ]
              refine' wpInv_step (by rfl) (fun w' hI => ?_) ?_
              rotate_left
              · have hf := HF.out w' hI
                unfold invAt
                go_simp
                first | exact rfl | exact ⟨rfl, hI⟩
              simp only [Act.put, List.setIfInBounds_toArray, List.set_cons_zero, List.set_cons_succ]
              refine' wpInv_step (by rfl) (fun w' hI => ?_) ?_
              rotate_left
              · have hf := HF.out w' hI
                unfold invAt
                go_simp
                first | exact rfl | exact ⟨rfl, hI⟩
              simp only [Act.put, List.setIfInBounds_toArray, List.set_cons_zero, List.set_cons_succ]
              refine' wpInv_step (by rfl) (fun w' hI => ?_) ?_
              rotate_left
              · have hf := HF.out w' hI
                unfold invAt
                go_simp
                first | exact rfl | exact ⟨rfl, hI⟩
              simp only [Act.put, List.setIfInBounds_toArray, List.set_cons_zero, List.set_cons_succ]
              refine' wpInv_step (by rfl) (fun w' hI => ?_) ?_
              rotate_left
              · have hf := HF.out w' hI
                unfold invAt
                go_simp
                first | exact rfl | exact ⟨rfl, hI⟩
              simp only [Act.put, List.setIfInBounds_toArray, List.set_cons_zero, List.set_cons_succ]
              refine' wpInv_step (by rfl) (fun w' hI => ?_) ?_
              rotate_left
              · have hf := HF.out w' hI
                unfold invAt
                go_simp
                first | exact rfl | exact ⟨rfl, hI⟩
              simp only [Act.put, List.setIfInBounds_toArray, List.set_cons_zero, List.set_cons_succ]
              refine' wpInv_step (by rfl) (fun w' hI => ?_) ?_
              rotate_left
              · have hf := HF.out w' hI
                unfold invAt
                go_simp
                first | exact rfl | exact ⟨rfl, hI⟩
              simp only [Act.put, List.setIfInBounds_toArray, List.set_cons_zero, List.set_cons_succ]
              refine' wpInv_step (by rfl) (fun w' hI => ?_) ?_
              rotate_left
              · have hf := HF.out w' hI
                unfold invAt
                go_simp
                first | exact rfl | exact ⟨rfl, hI⟩
              simp only [Act.put, List.setIfInBounds_toArray, List.set_cons_zero, List.set_cons_succ]
              refine' wpInv_step (by rfl) (fun w' hI => ?_) ?_
              rotate_left
              · have hf := HF.out w' hI
                unfold invAt
                go_simp
                first | exact rfl | exact ⟨rfl, hI⟩
              simp only [Act.put, List.setIfInBounds_toArray, List.set_cons_zero, List.set_cons_succ]
              refine' wpInv_step (by rfl) (fun w' hI => ?_) ?_
              rotate_left
              · have hf := HF.out w' hI
                unfold invAt
                go_simp
                first | exact rfl | exact ⟨rfl, hI⟩
              simp only [Act.put, List.setIfInBounds_toArray, List.set_cons_zero, List.set_cons_succ]
              refine' wpInv_step (by rfl) (fun w' hI => ?_) ?_
              rotate_left
              · have hf := HF.out w' hI
                unfold invAt
                go_simp
                first | exact rfl | exact ⟨rfl, hI⟩
              simp only [Act.put, List.setIfInBounds_toArray, List.set_cons_zero, List.set_cons_succ]
              refine' wpInv_step (by rfl) (fun w' hI => ?_) ?_
              rotate_left
              · have hf := HF.out w' hI
                unfold invAt
                go_simp
                first | exact rfl | exact ⟨rfl, hI⟩
              simp only [Act.put, List.setIfInBounds_toArray, List.set_cons_zero, List.set_cons_succ]
              refine' wpInv_step (by rfl) (fun w' hI => ?_) ?_
              rotate_left
              · have hf := HF.out w' hI
                unfold invAt
                go_simp
                first | exact rfl | exact ⟨rfl, hI⟩
              simp only [Act.put, List.setIfInBounds_toArray, List.set_cons_zero, List.set_cons_succ]
              refine' wpInv_step (by rfl) (fun w' hI => ?_) ?_
              rotate_left
              · have hf := HF.out w' hI
                unfold invAt
                go_simp
                first | exact rfl | exact ⟨rfl, hI⟩
              simp only [Act.put, List.setIfInBounds_toArray, List.set_cons_zero, List.set_cons_succ]
              intro w1 hI
              go_wp2_with fail
              go_roundw
              case rel =>
                refine ⟨m + 1 + 1, by omega, by go_num, fun j hj hj' => ?_, (hb.trans (HW.out.1.mono hb.size)).trans (hI.mono (by have := hb.size; omega))⟩
                by_cases hjk : j < m + 1
                · exact HR.out j hjk hj'
                · obtain rfl : j = m + 1 := by omega
                  refine ⟨HS.out, HT.out, fun q hq => ?_⟩
                  obtain rfl : q = m := by omega
                  exact HC.out
              case measure => simp [intOf]; omega
            | false =>
              have HC := Lib.hid hc
              unfold strLt at hc
              go_wp2_with fail
              generalize wr.alloc (Obj.cells #[Value.string xs[m + 1].name, xs[m + 1].sibs.val] 58) = W1 at HW ⊢
              have HF : Hid (∀ w', Below (wr.heap.size + 1) W1 w' → (w'.cell? ⟨wr.heap.size, 0, none⟩ = some (.string xs[m + 1].name) ∧ w'.cell? ⟨wr.heap.size, 1, none⟩ = some xs[m + 1].sibs.val)∧ w'.cell? ⟨a, ao + m * 2, none⟩ = some (.string xs[m].name)) := by
                intro w' h
                refine ⟨⟨?_, ?_⟩, ?_⟩ <;> first | (rw [h.cell (by simp), HW.out.2.2]; rfl) | (rw [h.cell (by simp; omega), HW.out.1.cell (by simpa using hab)]; exact D0.out)
              refine wp_region_inv 25 (by kernel_rfl) (by kernel_rfl) (fun w' => Below (wr.heap.size + 1) W1 w') (Below.refl _ _).drew ?_
              simp only [List.take_succ_cons, List.take_zero, List.drop_succ_cons, List.drop_zero]
              refine' wpInv_step (by rfl) (fun w' hI => ?_) ?_
              rotate_left
              · have hf := HF.out w' hI
                unfold invAt
                go_simp
                first | exact rfl | exact ⟨rfl, hI⟩
              simp only [Act.put, List.setIfInBounds_toArray, List.set_cons_zero, List.set_cons_succ]
              refine' wpInv_step (by rfl) (fun w' hI => ?_) ?_
              rotate_left
              · have hf := HF.out w' hI
                unfold invAt
                go_simp
                first | exact rfl | exact ⟨rfl, hI⟩
              simp only [Act.put, List.setIfInBounds_toArray, List.set_cons_zero, List.set_cons_succ]
              refine' wpInv_step (by rfl) (fun w' hI => ?_) ?_
              rotate_left
              · have hf := HF.out w' hI
                unfold invAt
                go_simp
                clear hf
                refine (isFileName_any xs[m + 1].name w' hAt.out.2).mono ?_
                rw [HS.out]
                rintro e w'' ⟨rfl, rfl⟩
                exact ⟨rfl, hI⟩
              simp only [Act.put, List.setIfInBounds_toArray, List.set_cons_zero, List.set_cons_succ]
              refine' wpInv_step (by rfl) (fun w' hI => ?_) ?_
              rotate_left
              · have hf := HF.out w' hI
                unfold invAt
                go_simp
                first | exact rfl | exact ⟨rfl, hI⟩
              simp only [Act.put, List.setIfInBounds_toArray, List.set_cons_zero, List.set_cons_succ]
              refine' wpInv_step (by rfl) (fun w' hI => ?_) ?_
              rotate_left
              · have hf := HF.out w' hI
                unfold invAt
                go_simp
                first | exact rfl | exact ⟨rfl, hI⟩
              simp only [Act.put, List.setIfInBounds_toArray, List.set_cons_zero, List.set_cons_succ]
              refine' wpInv_step (by rfl) (fun w' hI => ?_) ?_
              rotate_left
              · have hf := HF.out w' hI
                unfold invAt
                go_simp
                first | exact rfl | exact ⟨rfl, hI⟩
              simp only [Act.put, List.setIfInBounds_toArray, List.set_cons_zero, List.set_cons_succ]
              refine' wpInv_step (by rfl) (fun w' hI => ?_) ?_
              rotate_left
              · have hf := HF.out w' hI
                unfold invAt
                go_simp
                first | exact rfl | exact ⟨rfl, hI⟩
              simp only [Act.put, List.setIfInBounds_toArray, List.set_cons_zero, List.set_cons_succ]
              refine' wpInv_step (by rfl) (fun w' hI => ?_) ?_
              rotate_left
              · have hf := HF.out w' hI
                unfold invAt
                go_simp
                clear hf
                refine (areSibs_any xs[m + 1].sibs w' (Loc.At.below (Loc.At.belowAll hAt.out.1 HW.out.1) hI (fun b hb => by have := Dat.lt (α := LFile) hAt.out b hb; omega))).mono ?_
                rw [HT.out]
                rintro e w'' ⟨rfl, hb2⟩
                exact ⟨rfl, hI.trans (hb2.mono (by have := hI.size; rw [HW.out.2.1] at this; exact this))⟩
              simp only [Act.put, List.setIfInBounds_toArray, List.set_cons_zero, List.set_cons_succ]
              refine' wpInv_step (by rfl) (fun w' hI => ?_) ?_
              rotate_left
              · have hf := HF.out w' hI
                unfold invAt
                go_simp
                first | exact rfl | exact ⟨rfl, hI⟩
              simp only [Act.put, List.setIfInBounds_toArray, List.set_cons_zero, List.set_cons_succ]
              refine' wpInv_step (by rfl) (fun w' hI => ?_) ?_
              rotate_left
              · have hf := HF.out w' hI
                unfold invAt
                go_simp
                first | exact rfl | exact ⟨rfl, hI⟩
              simp only [Act.put, List.setIfInBounds_toArray, List.set_cons_zero, List.set_cons_succ]
              refine' wpInv_step (by rfl) (fun w' hI => ?_) ?_
              rotate_left
              · have hf := HF.out w' hI
                unfold invAt
                go_simp
                first | exact rfl | exact ⟨rfl, hI⟩
              simp only [Act.put, List.setIfInBounds_toArray, List.set_cons_zero, List.set_cons_succ]
              refine' wpInv_step (by rfl) (fun w' hI => ?_) ?_
              rotate_left
              · have hf := HF.out w' hI
                unfold invAt
                go_simp
                first | exact rfl | exact ⟨rfl, hI⟩
              simp only [Act.put, List.setIfInBounds_toArray, List.set_cons_zero, List.set_cons_succ]
              refine' wpInv_step (by rfl) (fun w' hI => ?_) ?_
              rotate_left
              · have hf := HF.out w' hI
                unfold invAt
                go_simp
                first | exact rfl | exact ⟨rfl, hI⟩
              simp only [Act.put, List.setIfInBounds_toArray, List.set_cons_zero, List.set_cons_succ]
              refine' wpInv_step (by rfl) (fun w' hI => ?_) ?_
              rotate_left
              · have hf := HF.out w' hI
                unfold invAt
                go_simp
                first | exact rfl | exact ⟨rfl, hI⟩
              simp only [Act.put, List.setIfInBounds_toArray, List.set_cons_zero, List.set_cons_succ]
              refine' wpInv_step (by rfl) (fun w' hI => ?_) ?_
              rotate_left
              · have hf := HF.out w' hI
                unfold invAt
                go_simp
                first | exact rfl | exact ⟨rfl, hI⟩
              simp only [Act.put, List.setIfInBounds_toArray, List.set_cons_zero, List.set_cons_succ]
              refine' wpInv_step (by rfl) (fun w' hI => ?_) ?_
              rotate_left
              · have hf := HF.out w' hI
                unfold invAt
                go_simp
                first | exact rfl | exact ⟨rfl, hI⟩
              simp only [Act.put, List.setIfInBounds_toArray, List.set_cons_zero, List.set_cons_succ]
              refine' wpInv_step (by rfl) (fun w' hI => ?_) ?_
              rotate_left
              · have hf := HF.out w' hI
                unfold invAt
                go_simp
                first | exact rfl | exact ⟨rfl, hI⟩
              simp only [Act.put, List.setIfInBounds_toArray, List.set_cons_zero, List.set_cons_succ]
              refine' wpInv_step (by rfl) (fun w' hI => ?_) ?_
              rotate_left
              · have hf := HF.out w' hI
                unfold invAt
                go_simp
                first | exact rfl | exact ⟨rfl, hI⟩
              simp only [Act.put, List.setIfInBounds_toArray, List.set_cons_zero, List.set_cons_succ]
              refine' wpInv_step (by rfl) (fun w' hI => ?_) ?_
              rotate_left
              · have hf := HF.out w' hI
                unfold invAt
                go_simp
                first | exact rfl | exact ⟨rfl, hI⟩
              simp only [Act.put, List.setIfInBounds_toArray, List.set_cons_zero, List.set_cons_succ]
              refine' wpInv_step (by rfl) (fun w' hI => ?_) ?_
              rotate_left
              · have hf := HF.out w' hI
                unfold invAt
                go_simp
                first | exact rfl | exact ⟨rfl, hI⟩
              simp only [Act.put, List.setIfInBounds_toArray, List.set_cons_zero, List.set_cons_succ]
              refine' wpInv_step (by rfl) (fun w' hI => ?_) ?_
              rotate_left
              · have hf := HF.out w' hI
                unfold invAt
                go_simp
                first | exact rfl | exact ⟨rfl, hI⟩
              simp only [Act.put, List.setIfInBounds_toArray, List.set_cons_zero, List.set_cons_succ]
              refine' wpInv_step (by rfl) (fun w' hI => ?_) ?_
              rotate_left
              · have hf := HF.out w' hI
                unfold invAt
                go_simp
                first | exact rfl | exact ⟨rfl, hI⟩
              simp only [Act.put, List.setIfInBounds_toArray, List.set_cons_zero, List.set_cons_succ]
              refine' wpInv_step (by rfl) (fun w' hI => ?_) ?_
              rotate_left
              · have hf := HF.out w' hI
                unfold invAt
                go_simp
                first | exact rfl | exact ⟨rfl, hI⟩
              simp only [Act.put, List.setIfInBounds_toArray, List.set_cons_zero, List.set_cons_succ]
              refine' wpInv_step (by rfl) (fun w' hI => ?_) ?_
              rotate_left
              · have hf := HF.out w' hI
                unfold invAt
                go_simp
                first | exact rfl | exact ⟨rfl, hI⟩
              simp only [Act.put, List.setIfInBounds_toArray, List.set_cons_zero, List.set_cons_succ]
              refine' wpInv_step (by rfl) (fun w' hI => ?_) ?_
              rotate_left
              · have hf := HF.out w' hI
                unfold invAt
                go_simp
                first | exact rfl | exact ⟨rfl, hI⟩
              simp only [Act.put, List.setIfInBounds_toArray, List.set_cons_zero, List.set_cons_succ]
              intro w1 hI
              go_wp2_with fail
              go_ret
              refine ⟨ret_bool (treeB_false fun h => ?_).symm, (hb.trans (HW.out.1.mono hb.size)).trans (hI.mono (by have := hb.size; omega))⟩
              have := h.asc m (by simpa using hlt)
              rw [List.getElem_map, List.getElem_map] at this
              rw [LFile.er, LFile.er, HC.out] at this
              cases this
    · have hkk : k = xs.length := by omega
      subst hkk
      have HO := Lib.hid (show ∀ j (h : j < xs.length), nameB xs[j].name = true ∧ sibsB (xs[j].sibs.xs.map LSib.er) = true ∧ ∀ m (hm : m + 1 = j), strLt xs[m].name xs[j].name = true from fun j h => HR.out j h h)
      clear HR
      by_cases hl2 : (xs.length : Int) ≤ 6
      · go_wp2_with fail
        go_ret
        refine ⟨ret_bool (treeB_true ⟨fun i h => ?_, fun i h => ?_, fun i h => ?_, ?_⟩).symm, hb⟩
        · rw [List.getElem_map]; exact (HO.out i (by simpa using h)).1
        · rw [List.getElem_map]; exact SibsOK.of (HO.out i (by simpa using h)).2.1
        · rw [List.getElem_map, List.getElem_map]; exact (HO.out (i + 1) (by simpa using h)).2.2 i rfl
        · simp; omega
      · go_wp2_with fail
        go_ret
        exact ⟨ret_bool (treeB_false fun h => (by have := h.few; simp at this; omega)).symm, hb⟩
end Go.Proofs.YtdidkfadiaafiaaGreatDoor
