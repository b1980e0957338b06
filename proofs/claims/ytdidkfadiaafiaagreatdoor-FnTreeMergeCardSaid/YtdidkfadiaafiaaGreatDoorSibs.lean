/- areSibs: what it answers. -/
import Derived.Test.YtdidkfadiaafiaaGreatDoorIdx
namespace Go.Proofs.YtdidkfadiaafiaaGreatDoor
open Go Go.RowKit

/-- A list of versions in order, none superseded. -/
structure SibsOK (l : List Sib) : Prop where
  each : ∀ i (h : i < l.length), sibB l[i] = true
  asc : ∀ i (h : i + 1 < l.length), cmpSib l[i] l[i + 1] < 0
  free : ∀ a ∈ l, ∀ b ∈ l, supB a b = false
  some_ : 1 ≤ l.length
  few : l.length ≤ 12

noncomputable def sibsB (l : List Sib) : Bool := @decide (SibsOK l) (Classical.propDecidable _)
theorem sibsB_true {l : List Sib} (h : SibsOK l) : sibsB l = true := by unfold sibsB; exact @decide_eq_true _ (Classical.propDecidable _) h
theorem sibsB_false {l : List Sib} (h : ¬ SibsOK l) : sibsB l = false := by unfold sibsB; exact @decide_eq_false _ (Classical.propDecidable _) h
theorem SibsOK.of {l : List Sib} (h : sibsB l = true) : SibsOK l := @of_decide_eq_true _ (Classical.propDecidable _) (by unfold sibsB at h; exact h)

theorem sibB_len {s : Sib} (h : sibB s = true) : s.vv.length = 3 := by
  simp only [sibB, vvB, Bool.and_eq_true, decide_eq_true_eq] at h
  exact h.1.1.2

set_option maxRecDepth 100000 in
set_option maxHeartbeats 400000 in
theorem areSibs_clo (a x : LSib) (b : Nat) (W : World) (h0 : W.cell? ⟨b, 0, none⟩ = some a.vv.val) (h1 : W.cell? ⟨b, 1, none⟩ = some (.bool a.gone)) (h2 : W.cell? ⟨b, 2, none⟩ = some (.string a.text))
    (ha : Dat.At W a) (hx : Dat.At W x) (hle : a.vv.xs.length ≤ x.vv.xs.length) :
    Calls Tryz.prog 82 #[x.val, .pointer (some ⟨b, 0, none⟩)] W fun e W' => e = .returned (.bool (supB a.er x.er)) ∧ Below W.heap.size W W' := by
  have hB := (Below.refl W.heap.size W).alloc (Nat.le_refl _) (Obj.cells #[x.vv.val, Value.bool x.gone, Value.string x.text] 42)
  have hb := World.block_lt_of_cell? W _ h0
  have h3 := Lib.hid (sup_any a x _ (Dat.belowAll ha hB) (Dat.belowAll hx hB) hle)
  have HB := Lib.hid hB
  clear hB
  simp only [LSib.val]
  go_enter Tryz.func82, Tryz.ntmps82
  go_wp2_with (go_at_call 83; refine h3.out.mono ?_; rintro e w' ⟨rfl, hb2⟩)
  go_ret
  exact ⟨rfl, HB.out.trans (hb2.mono (by simp))⟩

set_option maxRecDepth 100000 in
set_option maxHeartbeats 2000000 in
theorem areSibs_any (x : Loc LSib) (w : World) (hx : x.At w) :
    Calls Tryz.prog 54 #[x.val] w fun e w' => e = .returned (.bool (sibsB (x.xs.map LSib.er))) ∧ Below w.heap.size w w' := by
  obtain ⟨xa, xc, xs⟩ := x
  simp only [Loc.val]
  have h1 := hx.lenMax
  simp only at h1
  go_enter Tryz.func54, Tryz.ntmps54
  go_wp2_with fail
  go_loopw [3, 4, 9] (fun _ _ i wr => ∃ k : Nat, k ≤ xs.length ∧ i = .int .i64 k ∧ (∀ j (h : j < k) (h' : j < xs.length), sibB xs[j].er = true ∧ ∀ m (hm : m + 1 = j), cmpSib xs[m].er xs[j].er < 0) ∧ Below w.heap.size w wr) (fun _ _ i _ => xs.length - (intOf i).toNat)
  case atStart => exact ⟨0, Nat.zero_le _, rfl, fun j h => absurd h (by omega), Below.refl _ _⟩
  case round =>
    obtain ⟨k, hk, rfl, hrel, hb⟩ := hrel
    have HR := Lib.hid hrel
    clear hrel
    by_cases hlt : k < xs.length
    · obtain ⟨a, ao, ha⟩ := hx.place hlt
      simp only at ha
      subst ha
      obtain ⟨c0, c1, c2⟩ := (hx.belowAll hb).sib rfl hlt
      simp only at c0 c1 c2
      have hAt := Lib.hid ((hx.belowAll hb).elem (List.getElem_mem hlt))
      have hW : Below wr.heap.size wr (wr.alloc (Obj.cells #[xs[k].vv.val, Value.bool xs[k].gone, Value.string xs[k].text] 42)) ∧ (wr.alloc (Obj.cells #[xs[k].vv.val, Value.bool xs[k].gone, Value.string xs[k].text] 42)).heap.size = wr.heap.size + 1 ∧
          (∀ j, (wr.alloc (Obj.cells #[xs[k].vv.val, Value.bool xs[k].gone, Value.string xs[k].text] 42)).cell? ⟨wr.heap.size, j, none⟩ = #[xs[k].vv.val, Value.bool xs[k].gone, Value.string xs[k].text][j]?) :=
        ⟨(Below.refl _ _).alloc (Nat.le_refl _) _, by simp, fun j => cell_of_row _ _ _ _ _ (0, 0) (heap_alloc_new wr _)⟩
      have HW := Lib.hid hW
      clear hW
      cases hs : sibB xs[k].er with
      | false =>
        have HS := Lib.hid hs
        clear hs
        go_wp2_with fail
        generalize wr.alloc (Obj.cells #[xs[k].vv.val, Value.bool xs[k].gone, Value.string xs[k].text] 42) = W1 at HW ⊢
        have HF : Hid (∀ w', Below (wr.heap.size + 1) W1 w' → w'.cell? ⟨wr.heap.size, 0, none⟩ = some xs[k].vv.val ∧ w'.cell? ⟨wr.heap.size, 1, none⟩ = some (.bool xs[k].gone) ∧ w'.cell? ⟨wr.heap.size, 2, none⟩ = some (.string xs[k].text)) := by
          intro w' h
          refine ⟨?_, ?_, ?_⟩ <;> (rw [h.cell (by simp), HW.out.2.2]; rfl)
        refine wp_region_inv 17 (by kernel_rfl) (by kernel_rfl) (fun w' => Below (wr.heap.size + 1) W1 w') (Below.refl _ _).drew ?_
        simp only [List.take_succ_cons, List.take_zero, List.drop_succ_cons, List.drop_zero]
        refine' wpInv_step (by rfl) (fun w' hI => ?_) ?_
        rotate_left
        · have hf := HF.out w' hI
          unfold invAt
          go_simp
          first | exact rfl | exact ⟨rfl, hI⟩
        simp only [Act.put, List.setIfInBounds_toArray, List.set_cons_zero, List.set_cons_succ]
        refine' wpInv_step (by rfl) (fun w' hI => ?_) ?_
        rotate_left
        · have hf := HF.out w' hI
          unfold invAt
          go_simp
          clear hf
          refine (isSib_any xs[k] w' (Dat.below (Dat.belowAll hAt.out HW.out.1) hI (fun b hb => by have := Dat.lt hAt.out b hb; omega))).mono ?_
          rw [HS.out]
          rintro e w'' ⟨rfl, hb2⟩
          exact ⟨rfl, hI.trans (hb2.mono (by have := hI.size; rw [HW.out.2.1] at this; exact this))⟩
        simp only [Act.put, List.setIfInBounds_toArray, List.set_cons_zero, List.set_cons_succ]
        refine' wpInv_step (by rfl) (fun w' hI => ?_) ?_
        rotate_left
        · have hf := HF.out w' hI
          unfold invAt
          go_simp
          first | exact rfl | exact ⟨rfl, hI⟩
        simp only [Act.put, List.setIfInBounds_toArray, List.set_cons_zero, List.set_cons_succ]
        refine' wpInv_step (by rfl) (fun w' hI => ?_) ?_
        rotate_left
        · have hf := HF.out w' hI
          unfold invAt
          go_simp
          first | exact rfl | exact ⟨rfl, hI⟩
        simp only [Act.put, List.setIfInBounds_toArray, List.set_cons_zero, List.set_cons_succ]
        refine wpInv_pass (by rfl) ?_
        simp only [Act.put, List.setIfInBounds_toArray, List.set_cons_zero, List.set_cons_succ]
        refine wpInv_pass (by rfl) ?_
        simp only [Act.put, List.setIfInBounds_toArray, List.set_cons_zero, List.set_cons_succ]
        refine wpInv_pass (by rfl) ?_
        simp only [Act.put, List.setIfInBounds_toArray, List.set_cons_zero, List.set_cons_succ]
        refine wpInv_pass (by rfl) ?_
        simp only [Act.put, List.setIfInBounds_toArray, List.set_cons_zero, List.set_cons_succ]
        refine wpInv_pass (by rfl) ?_
        simp only [Act.put, List.setIfInBounds_toArray, List.set_cons_zero, List.set_cons_succ]
        refine wpInv_pass (by rfl) ?_
        simp only [Act.put, List.setIfInBounds_toArray, List.set_cons_zero, List.set_cons_succ]
        refine wpInv_pass (by rfl) ?_
        simp only [Act.put, List.setIfInBounds_toArray, List.set_cons_zero, List.set_cons_succ]
        refine wpInv_pass (by rfl) ?_
        simp only [Act.put, List.setIfInBounds_toArray, List.set_cons_zero, List.set_cons_succ]
        refine wpInv_pass (by rfl) ?_
        simp only [Act.put, List.setIfInBounds_toArray, List.set_cons_zero, List.set_cons_succ]
        refine wpInv_pass (by rfl) ?_
        simp only [Act.put, List.setIfInBounds_toArray, List.set_cons_zero, List.set_cons_succ]
        refine wpInv_pass (by rfl) ?_
        simp only [Act.put, List.setIfInBounds_toArray, List.set_cons_zero, List.set_cons_succ]
        refine wpInv_pass (by rfl) ?_
        simp only [Act.put, List.setIfInBounds_toArray, List.set_cons_zero, List.set_cons_succ]
        refine' wpInv_step (by rfl) (fun w' hI => ?_) ?_
        rotate_left
        · have hf := HF.out w' hI
          unfold invAt
          go_simp
          first | exact rfl | exact ⟨rfl, hI⟩
        simp only [Act.put, List.setIfInBounds_toArray, List.set_cons_zero, List.set_cons_succ]
        intro w1 hI
        go_wp2_with fail
        go_ret
        refine ⟨ret_bool (sibsB_false fun h => ?_).symm, (hb.trans (HW.out.1.mono hb.size)).trans (hI.mono (by have := hb.size; omega))⟩
        have := h.each k (by simpa using hlt)
        rw [List.getElem_map, HS.out] at this
        cases this
      | true =>
        have HS := Lib.hid hs
        clear hs
        by_cases hk0 : k = 0
        · have HK0 := Lib.hid hk0
          have hkz : decide ((0 : Int) < (k : Int)) = false := decide_eq_false (by omega)
          have hkz2 : decide (0 < k) = false := decide_eq_false (by omega)
          clear hk0
          go_wp2_with fail
          generalize wr.alloc (Obj.cells #[xs[k].vv.val, Value.bool xs[k].gone, Value.string xs[k].text] 42) = W1 at HW ⊢
          have HF : Hid (∀ w', Below (wr.heap.size + 1) W1 w' → w'.cell? ⟨wr.heap.size, 0, none⟩ = some xs[k].vv.val ∧ w'.cell? ⟨wr.heap.size, 1, none⟩ = some (.bool xs[k].gone) ∧ w'.cell? ⟨wr.heap.size, 2, none⟩ = some (.string xs[k].text)) := by
            intro w' h
            refine ⟨?_, ?_, ?_⟩ <;> (rw [h.cell (by simp), HW.out.2.2]; rfl)
          refine wp_region_inv 17 (by kernel_rfl) (by kernel_rfl) (fun w' => Below (wr.heap.size + 1) W1 w') (Below.refl _ _).drew ?_
          simp only [List.take_succ_cons, List.take_zero, List.drop_succ_cons, List.drop_zero]
          refine' wpInv_step (by rfl) (fun w' hI => ?_) ?_
          rotate_left
          · have hf := HF.out w' hI
            unfold invAt
            go_simp
            first | exact rfl | exact ⟨rfl, hI⟩
          simp only [Act.put, List.setIfInBounds_toArray, List.set_cons_zero, List.set_cons_succ]
          refine' wpInv_step (by rfl) (fun w' hI => ?_) ?_
          rotate_left
          · have hf := HF.out w' hI
            unfold invAt
            go_simp
            clear hf
            refine (isSib_any xs[k] w' (Dat.below (Dat.belowAll hAt.out HW.out.1) hI (fun b hb => by have := Dat.lt hAt.out b hb; omega))).mono ?_
            rw [HS.out]
            rintro e w'' ⟨rfl, hb2⟩
            exact ⟨rfl, hI.trans (hb2.mono (by have := hI.size; rw [HW.out.2.1] at this; exact this))⟩
          simp only [Act.put, List.setIfInBounds_toArray, List.set_cons_zero, List.set_cons_succ]
          refine' wpInv_step (by rfl) (fun w' hI => ?_) ?_
          rotate_left
          · have hf := HF.out w' hI
            unfold invAt
            go_simp
            first | exact rfl | exact ⟨rfl, hI⟩
          simp only [Act.put, List.setIfInBounds_toArray, List.set_cons_zero, List.set_cons_succ]
          refine' wpInv_step (by rfl) (fun w' hI => ?_) ?_
          rotate_left
          · have hf := HF.out w' hI
            unfold invAt
            go_simp
            first | exact rfl | exact ⟨rfl, hI⟩
          simp only [Act.put, List.setIfInBounds_toArray, List.set_cons_zero, List.set_cons_succ]
          refine' wpInv_step (by rfl) (fun w' hI => ?_) ?_
          rotate_left
          · have hf := HF.out w' hI
            unfold invAt
            go_simp
            first | exact rfl | exact ⟨rfl, hI⟩
          simp only [Act.put, List.setIfInBounds_toArray, List.set_cons_zero, List.set_cons_succ]
          refine' wpInv_step (by rfl) (fun w' hI => ?_) ?_
          rotate_left
          · have hf := HF.out w' hI
            unfold invAt
            go_simp
            first | exact rfl | exact ⟨rfl, hI⟩
          simp only [Act.put, List.setIfInBounds_toArray, List.set_cons_zero, List.set_cons_succ]
          refine' wpInv_step (by rfl) (fun w' hI => ?_) ?_
          rotate_left
          · have hf := HF.out w' hI
            unfold invAt
            go_simp
            first | exact rfl | exact ⟨rfl, hI⟩
          simp only [Act.put, List.setIfInBounds_toArray, List.set_cons_zero, List.set_cons_succ]
          refine wpInv_pass (by rfl) ?_
          simp only [Act.put, List.setIfInBounds_toArray, List.set_cons_zero, List.set_cons_succ]
          refine wpInv_pass (by rfl) ?_
          simp only [Act.put, List.setIfInBounds_toArray, List.set_cons_zero, List.set_cons_succ]
          refine wpInv_pass (by rfl) ?_
          simp only [Act.put, List.setIfInBounds_toArray, List.set_cons_zero, List.set_cons_succ]
          refine wpInv_pass (by rfl) ?_
          simp only [Act.put, List.setIfInBounds_toArray, List.set_cons_zero, List.set_cons_succ]
          refine wpInv_pass (by rfl) ?_
          simp only [Act.put, List.setIfInBounds_toArray, List.set_cons_zero, List.set_cons_succ]
          refine wpInv_pass (by rfl) ?_
          simp only [Act.put, List.setIfInBounds_toArray, List.set_cons_zero, List.set_cons_succ]
          refine wpInv_pass (by rfl) ?_
          simp only [Act.put, List.setIfInBounds_toArray, List.set_cons_zero, List.set_cons_succ]
          refine wpInv_pass (by rfl) ?_
          simp only [Act.put, List.setIfInBounds_toArray, List.set_cons_zero, List.set_cons_succ]
          refine' wpInv_step (by rfl) (fun w' hI => ?_) ?_
          rotate_left
          · have hf := HF.out w' hI
            unfold invAt
            go_simp
            first | exact rfl | exact ⟨rfl, hI⟩
          simp only [Act.put, List.setIfInBounds_toArray, List.set_cons_zero, List.set_cons_succ]
          refine' wpInv_step (by rfl) (fun w' hI => ?_) ?_
          rotate_left
          · have hf := HF.out w' hI
            unfold invAt
            go_simp
            first | exact rfl | exact ⟨rfl, hI⟩
          simp only [Act.put, List.setIfInBounds_toArray, List.set_cons_zero, List.set_cons_succ]
          intro w1 hI
          go_wp2_with fail
          go_roundw
          case rel =>
            refine ⟨k + 1, by omega, by go_num, fun j hj hj' => ?_, (hb.trans (HW.out.1.mono hb.size)).trans (hI.mono (by have := hb.size; omega))⟩
            have hk0 := HK0.out
            obtain rfl : j = k := by omega
            exact ⟨HS.out, fun m hm => by omega⟩
          case measure => simp [intOf]; omega
        · obtain ⟨m, rfl⟩ : ∃ m, k = m + 1 := ⟨k - 1, by omega⟩
          have hm : m < xs.length := by omega
          obtain ⟨d0, d1, d2⟩ := (hx.belowAll hb).sib rfl hm
          simp only at d0 d1 d2
          have D0 := Lib.hid d0
          have D1 := Lib.hid d1
          have D2 := Lib.hid d2
          clear d0 d1 d2 hk0
          have hwm : IntKind.i64.wrap ((m : Nat) : Int) = (m : Int) := IntWalk.i64_in _ (by omega)
          have hAm := Lib.hid ((hx.belowAll hb).elem (List.getElem_mem hm))
          have hab : a < wr.heap.size := World.block_lt_of_cell? _ _ c0
          generalize hc : cmpSib xs[m].er xs[m + 1].er = c
          have HC := Lib.hid hc
          clear hc
          by_cases hlt0 : c < 0
          · go_wp2_with fail
            generalize wr.alloc (Obj.cells #[xs[m + 1].vv.val, Value.bool xs[m + 1].gone, Value.string xs[m + 1].text] 42) = W1 at HW ⊢
            have HF : Hid (∀ w', Below (wr.heap.size + 1) W1 w' → (w'.cell? ⟨wr.heap.size, 0, none⟩ = some xs[m + 1].vv.val ∧ w'.cell? ⟨wr.heap.size, 1, none⟩ = some (.bool xs[m + 1].gone) ∧ w'.cell? ⟨wr.heap.size, 2, none⟩ = some (.string xs[m + 1].text)) ∧
                w'.cell? ⟨a, ao + m * 3, none⟩ = some xs[m].vv.val ∧ w'.cell? ⟨a, ao + m * 3 + 1, none⟩ = some (.bool xs[m].gone) ∧ w'.cell? ⟨a, ao + m * 3 + 2, none⟩ = some (.string xs[m].text)) := by
              intro w' h
              refine ⟨⟨?_, ?_, ?_⟩, ?_, ?_, ?_⟩
              · rw [h.cell (by simp), HW.out.2.2]; rfl
              · rw [h.cell (by simp), HW.out.2.2]; rfl
              · rw [h.cell (by simp), HW.out.2.2]; rfl
              · rw [h.cell (by simp; omega), HW.out.1.cell (by simpa using hab)]; exact D0.out
              · rw [h.cell (by simp; omega), HW.out.1.cell (by simpa using hab)]; exact D1.out
              · rw [h.cell (by simp; omega), HW.out.1.cell (by simpa using hab)]; exact D2.out
            refine wp_region_inv 17 (by kernel_rfl) (by kernel_rfl) (fun w' => Below (wr.heap.size + 1) W1 w') (Below.refl _ _).drew ?_
            simp only [List.take_succ_cons, List.take_zero, List.drop_succ_cons, List.drop_zero]
            refine' wpInv_step (by rfl) (fun w' hI => ?_) ?_
            rotate_left
            · have hf := HF.out w' hI
              unfold invAt
              go_simp
              first | exact rfl | exact ⟨rfl, hI⟩
            simp only [Act.put, List.setIfInBounds_toArray, List.set_cons_zero, List.set_cons_succ]
            refine' wpInv_step (by rfl) (fun w' hI => ?_) ?_
            rotate_left
            · have hf := HF.out w' hI
              unfold invAt
              go_simp
              clear hf
              refine (isSib_any xs[m + 1] w' (Dat.below (Dat.belowAll hAt.out HW.out.1) hI (fun b hb => by have := Dat.lt hAt.out b hb; omega))).mono ?_
              rw [HS.out]
              rintro e w'' ⟨rfl, hb2⟩
              exact ⟨rfl, hI.trans (hb2.mono (by have := hI.size; rw [HW.out.2.1] at this; exact this))⟩
            simp only [Act.put, List.setIfInBounds_toArray, List.set_cons_zero, List.set_cons_succ]
            refine' wpInv_step (by rfl) (fun w' hI => ?_) ?_
            rotate_left
            · have hf := HF.out w' hI
              unfold invAt
              go_simp
              first | exact rfl | exact ⟨rfl, hI⟩
            simp only [Act.put, List.setIfInBounds_toArray, List.set_cons_zero, List.set_cons_succ]
            refine' wpInv_step (by rfl) (fun w' hI => ?_) ?_
            rotate_left
            · have hf := HF.out w' hI
              unfold invAt
              go_simp
              first | exact rfl | exact ⟨rfl, hI⟩
            simp only [Act.put, List.setIfInBounds_toArray, List.set_cons_zero, List.set_cons_succ]
            refine' wpInv_step (by rfl) (fun w' hI => ?_) ?_
            rotate_left
            · have hf := HF.out w' hI
              unfold invAt
              go_simp
              first | exact rfl | exact ⟨rfl, hI⟩
            simp only [Act.put, List.setIfInBounds_toArray, List.set_cons_zero, List.set_cons_succ]
            refine' wpInv_step (by rfl) (fun w' hI => ?_) ?_
            rotate_left
            · have hf := HF.out w' hI
              unfold invAt
              go_simp
              first | exact rfl | exact ⟨rfl, hI⟩
            simp only [Act.put, List.setIfInBounds_toArray, List.set_cons_zero, List.set_cons_succ]
            refine' wpInv_step (by rfl) (fun w' hI => ?_) ?_
            rotate_left
            · have hf := HF.out w' hI
              unfold invAt
              go_simp
              first | exact rfl | exact ⟨rfl, hI⟩
            simp only [Act.put, List.setIfInBounds_toArray, List.set_cons_zero, List.set_cons_succ]
            refine' wpInv_step (by rfl) (fun w' hI => ?_) ?_
            rotate_left
            · have hf := HF.out w' hI
              unfold invAt
              go_simp
              first | exact rfl | exact ⟨rfl, hI⟩
            simp only [Act.put, List.setIfInBounds_toArray, List.set_cons_zero, List.set_cons_succ]
            refine' wpInv_step (by rfl) (fun w' hI => ?_) ?_
            rotate_left
            · have hf := HF.out w' hI
              unfold invAt
              go_simp
              first | exact rfl | exact ⟨rfl, hI⟩
            simp only [Act.put, List.setIfInBounds_toArray, List.set_cons_zero, List.set_cons_succ]
            refine' wpInv_step (by rfl) (fun w' hI => ?_) ?_
            rotate_left
            · have hf := HF.out w' hI
              unfold invAt
              go_simp
              first | exact rfl | exact ⟨rfl, hI⟩
            simp only [Act.put, List.setIfInBounds_toArray, List.set_cons_zero, List.set_cons_succ]
            refine' wpInv_step (by rfl) (fun w' hI => ?_) ?_
            rotate_left
            · have hf := HF.out w' hI
              unfold invAt
              go_simp
              first | exact rfl | exact ⟨rfl, hI⟩
            simp only [Act.put, List.setIfInBounds_toArray, List.set_cons_zero, List.set_cons_succ]
            refine' wpInv_step (by rfl) (fun w' hI => ?_) ?_
            rotate_left
            · have hf := HF.out w' hI
              unfold invAt
              go_simp
              first | exact rfl | exact ⟨rfl, hI⟩
            simp only [Act.put, List.setIfInBounds_toArray, List.set_cons_zero, List.set_cons_succ]
            refine' wpInv_step (by rfl) (fun w' hI => ?_) ?_
            rotate_left
            · have hf := HF.out w' hI
              unfold invAt
              go_simp
              first | exact rfl | exact ⟨rfl, hI⟩
            simp only [Act.put, List.setIfInBounds_toArray, List.set_cons_zero, List.set_cons_succ]
            refine' wpInv_step (by rfl) (fun w' hI => ?_) ?_
            rotate_left
            · have hf := HF.out w' hI
              unfold invAt
              go_simp
              clear hf
              refine (cmpSib_any xs[m] xs[m + 1] w' (Dat.below (Dat.belowAll hAm.out HW.out.1) hI (fun b hb => by have := Dat.lt hAm.out b hb; omega)) (Dat.below (Dat.belowAll hAt.out HW.out.1) hI (fun b hb => by have := Dat.lt hAt.out b hb; omega))).mono ?_
              rw [HC.out]
              rintro e w'' ⟨rfl, hb2⟩
              exact ⟨rfl, hI.trans (hb2.mono (by have := hI.size; rw [HW.out.2.1] at this; exact this))⟩
            simp only [Act.put, List.setIfInBounds_toArray, List.set_cons_zero, List.set_cons_succ]
            refine' wpInv_step (by rfl) (fun w' hI => ?_) ?_
            rotate_left
            · have hf := HF.out w' hI
              unfold invAt
              go_simp
              first | exact rfl | exact ⟨rfl, hI⟩
            simp only [Act.put, List.setIfInBounds_toArray, List.set_cons_zero, List.set_cons_succ]
            refine' wpInv_step (by rfl) (fun w' hI => ?_) ?_
            rotate_left
            · have hf := HF.out w' hI
              unfold invAt
              go_simp
              first | exact rfl | exact ⟨rfl, hI⟩
            simp only [Act.put, List.setIfInBounds_toArray, List.set_cons_zero, List.set_cons_succ]
            refine' wpInv_step (by rfl) (fun w' hI => ?_) ?_
            rotate_left
            · have hf := HF.out w' hI
              unfold invAt
              go_simp
              first | exact rfl | exact ⟨rfl, hI⟩
            simp only [Act.put, List.setIfInBounds_toArray, List.set_cons_zero, List.set_cons_succ]
            intro w1 hI
            go_wp2_with fail
            go_roundw
            case rel =>
              refine ⟨m + 1 + 1, by omega, by go_num, fun j hj hj' => ?_, (hb.trans (HW.out.1.mono hb.size)).trans (hI.mono (by have := hb.size; omega))⟩
              by_cases hjk : j < m + 1
              · exact HR.out j hjk hj'
              · obtain rfl : j = m + 1 := by omega
                refine ⟨HS.out, fun q hq => ?_⟩
                obtain rfl : q = m := by omega
                rw [HC.out]; exact hlt0
            case measure => simp [intOf]; omega
          · go_wp2_with fail
            generalize wr.alloc (Obj.cells #[xs[m + 1].vv.val, Value.bool xs[m + 1].gone, Value.string xs[m + 1].text] 42) = W1 at HW ⊢
            have HF : Hid (∀ w', Below (wr.heap.size + 1) W1 w' → (w'.cell? ⟨wr.heap.size, 0, none⟩ = some xs[m + 1].vv.val ∧ w'.cell? ⟨wr.heap.size, 1, none⟩ = some (.bool xs[m + 1].gone) ∧ w'.cell? ⟨wr.heap.size, 2, none⟩ = some (.string xs[m + 1].text)) ∧
                w'.cell? ⟨a, ao + m * 3, none⟩ = some xs[m].vv.val ∧ w'.cell? ⟨a, ao + m * 3 + 1, none⟩ = some (.bool xs[m].gone) ∧ w'.cell? ⟨a, ao + m * 3 + 2, none⟩ = some (.string xs[m].text)) := by
              intro w' h
              refine ⟨⟨?_, ?_, ?_⟩, ?_, ?_, ?_⟩
              · rw [h.cell (by simp), HW.out.2.2]; rfl
              · rw [h.cell (by simp), HW.out.2.2]; rfl
              · rw [h.cell (by simp), HW.out.2.2]; rfl
              · rw [h.cell (by simp; omega), HW.out.1.cell (by simpa using hab)]; exact D0.out
              · rw [h.cell (by simp; omega), HW.out.1.cell (by simpa using hab)]; exact D1.out
              · rw [h.cell (by simp; omega), HW.out.1.cell (by simpa using hab)]; exact D2.out
            refine wp_region_inv 17 (by kernel_rfl) (by kernel_rfl) (fun w' => Below (wr.heap.size + 1) W1 w') (Below.refl _ _).drew ?_
            simp only [List.take_succ_cons, List.take_zero, List.drop_succ_cons, List.drop_zero]
            refine' wpInv_step (by rfl) (fun w' hI => ?_) ?_
            rotate_left
            · have hf := HF.out w' hI
              unfold invAt
              go_simp
              first | exact rfl | exact ⟨rfl, hI⟩
            simp only [Act.put, List.setIfInBounds_toArray, List.set_cons_zero, List.set_cons_succ]
            refine' wpInv_step (by rfl) (fun w' hI => ?_) ?_
            rotate_left
            · have hf := HF.out w' hI
              unfold invAt
              go_simp
              clear hf
              refine (isSib_any xs[m + 1] w' (Dat.below (Dat.belowAll hAt.out HW.out.1) hI (fun b hb => by have := Dat.lt hAt.out b hb; omega))).mono ?_
              rw [HS.out]
              rintro e w'' ⟨rfl, hb2⟩
              exact ⟨rfl, hI.trans (hb2.mono (by have := hI.size; rw [HW.out.2.1] at this; exact this))⟩
            simp only [Act.put, List.setIfInBounds_toArray, List.set_cons_zero, List.set_cons_succ]
            refine' wpInv_step (by rfl) (fun w' hI => ?_) ?_
            rotate_left
            · have hf := HF.out w' hI
              unfold invAt
              go_simp
              first | exact rfl | exact ⟨rfl, hI⟩
            simp only [Act.put, List.setIfInBounds_toArray, List.set_cons_zero, List.set_cons_succ]
            refine' wpInv_step (by rfl) (fun w' hI => ?_) ?_
            rotate_left
            · have hf := HF.out w' hI
              unfold invAt
              go_simp
              first | exact rfl | exact ⟨rfl, hI⟩
            simp only [Act.put, List.setIfInBounds_toArray, List.set_cons_zero, List.set_cons_succ]
            refine' wpInv_step (by rfl) (fun w' hI => ?_) ?_
            rotate_left
            · have hf := HF.out w' hI
              unfold invAt
              go_simp
              first | exact rfl | exact ⟨rfl, hI⟩
            simp only [Act.put, List.setIfInBounds_toArray, List.set_cons_zero, List.set_cons_succ]
            refine' wpInv_step (by rfl) (fun w' hI => ?_) ?_
            rotate_left
            · have hf := HF.out w' hI
              unfold invAt
              go_simp
              first | exact rfl | exact ⟨rfl, hI⟩
            simp only [Act.put, List.setIfInBounds_toArray, List.set_cons_zero, List.set_cons_succ]
            refine' wpInv_step (by rfl) (fun w' hI => ?_) ?_
            rotate_left
            · have hf := HF.out w' hI
              unfold invAt
              go_simp
              first | exact rfl | exact ⟨rfl, hI⟩
            simp only [Act.put, List.setIfInBounds_toArray, List.set_cons_zero, List.set_cons_succ]
            refine' wpInv_step (by rfl) (fun w' hI => ?_) ?_
            rotate_left
            · have hf := HF.out w' hI
              unfold invAt
              go_simp
              first | exact rfl | exact ⟨rfl, hI⟩
            simp only [Act.put, List.setIfInBounds_toArray, List.set_cons_zero, List.set_cons_succ]
            refine' wpInv_step (by rfl) (fun w' hI => ?_) ?_
            rotate_left
            · have hf := HF.out w' hI
              unfold invAt
              go_simp
              first | exact rfl | exact ⟨rfl, hI⟩
            simp only [Act.put, List.setIfInBounds_toArray, List.set_cons_zero, List.set_cons_succ]
            refine' wpInv_step (by rfl) (fun w' hI => ?_) ?_
            rotate_left
            · have hf := HF.out w' hI
              unfold invAt
              go_simp
              first | exact rfl | exact ⟨rfl, hI⟩
            simp only [Act.put, List.setIfInBounds_toArray, List.set_cons_zero, List.set_cons_succ]
            refine' wpInv_step (by rfl) (fun w' hI => ?_) ?_
            rotate_left
            · have hf := HF.out w' hI
              unfold invAt
              go_simp
              first | exact rfl | exact ⟨rfl, hI⟩
            simp only [Act.put, List.setIfInBounds_toArray, List.set_cons_zero, List.set_cons_succ]
            refine' wpInv_step (by rfl) (fun w' hI => ?_) ?_
            rotate_left
            · have hf := HF.out w' hI
              unfold invAt
              go_simp
              first | exact rfl | exact ⟨rfl, hI⟩
            simp only [Act.put, List.setIfInBounds_toArray, List.set_cons_zero, List.set_cons_succ]
            refine' wpInv_step (by rfl) (fun w' hI => ?_) ?_
            rotate_left
            · have hf := HF.out w' hI
              unfold invAt
              go_simp
              first | exact rfl | exact ⟨rfl, hI⟩
            simp only [Act.put, List.setIfInBounds_toArray, List.set_cons_zero, List.set_cons_succ]
            refine' wpInv_step (by rfl) (fun w' hI => ?_) ?_
            rotate_left
            · have hf := HF.out w' hI
              unfold invAt
              go_simp
              clear hf
              refine (cmpSib_any xs[m] xs[m + 1] w' (Dat.below (Dat.belowAll hAm.out HW.out.1) hI (fun b hb => by have := Dat.lt hAm.out b hb; omega)) (Dat.below (Dat.belowAll hAt.out HW.out.1) hI (fun b hb => by have := Dat.lt hAt.out b hb; omega))).mono ?_
              rw [HC.out]
              rintro e w'' ⟨rfl, hb2⟩
              exact ⟨rfl, hI.trans (hb2.mono (by have := hI.size; rw [HW.out.2.1] at this; exact this))⟩
            simp only [Act.put, List.setIfInBounds_toArray, List.set_cons_zero, List.set_cons_succ]
            refine' wpInv_step (by rfl) (fun w' hI => ?_) ?_
            rotate_left
            · have hf := HF.out w' hI
              unfold invAt
              go_simp
              first | exact rfl | exact ⟨rfl, hI⟩
            simp only [Act.put, List.setIfInBounds_toArray, List.set_cons_zero, List.set_cons_succ]
            refine' wpInv_step (by rfl) (fun w' hI => ?_) ?_
            rotate_left
            · have hf := HF.out w' hI
              unfold invAt
              go_simp
              first | exact rfl | exact ⟨rfl, hI⟩
            simp only [Act.put, List.setIfInBounds_toArray, List.set_cons_zero, List.set_cons_succ]
            refine' wpInv_step (by rfl) (fun w' hI => ?_) ?_
            rotate_left
            · have hf := HF.out w' hI
              unfold invAt
              go_simp
              first | exact rfl | exact ⟨rfl, hI⟩
            simp only [Act.put, List.setIfInBounds_toArray, List.set_cons_zero, List.set_cons_succ]
            intro w1 hI
            go_wp2_with fail
            go_ret
            refine ⟨ret_bool (sibsB_false fun h => ?_).symm, (hb.trans (HW.out.1.mono hb.size)).trans (hI.mono (by have := hb.size; omega))⟩
            have := h.asc m (by simpa using hlt)
            rw [List.getElem_map, List.getElem_map, HC.out] at this
            omega
    · have hkk : k = xs.length := by omega
      subst hkk
      have HO := Lib.hid (show ∀ j (h : j < xs.length), sibB xs[j].er = true ∧ ∀ m (hm : m + 1 = j), cmpSib xs[m].er xs[j].er < 0 from fun j h => HR.out j h h)
      clear HR
      go_wp2_with fail
      go_loopw [6, 34] (fun _ i wq => ∃ k : Nat, k ≤ xs.length ∧ i = .int .i64 k ∧ (∀ j (h : j < k) (h' : j < xs.length), ∀ b ∈ xs, supB xs[j].er b.er = false) ∧ Below w.heap.size w wq) (fun _ i _ => xs.length - (intOf i).toNat)
      case atStart => exact ⟨0, Nat.zero_le _, rfl, fun j h => absurd h (by omega), hb⟩
      case round =>
        obtain ⟨k, hk, rfl, hrel, hb⟩ := hrel
        have HR := Lib.hid hrel
        clear hrel
        by_cases hlt : k < xs.length
        · obtain ⟨a, ao, ha⟩ := hx.place hlt
          simp only at ha
          subst ha
          obtain ⟨c0, c1, c2⟩ := (hx.belowAll hb).sib rfl hlt
          simp only at c0 c1 c2
          have hAt := Lib.hid (hx.belowAll hb)
          have hW : Below wr.heap.size wr (wr.alloc (Obj.cells #[xs[k].vv.val, Value.bool xs[k].gone, Value.string xs[k].text] 42)) ∧ (wr.alloc (Obj.cells #[xs[k].vv.val, Value.bool xs[k].gone, Value.string xs[k].text] 42)).heap.size = wr.heap.size + 1 ∧
              (∀ j, (wr.alloc (Obj.cells #[xs[k].vv.val, Value.bool xs[k].gone, Value.string xs[k].text] 42)).cell? ⟨wr.heap.size, j, none⟩ = #[xs[k].vv.val, Value.bool xs[k].gone, Value.string xs[k].text][j]?) :=
            ⟨(Below.refl _ _).alloc (Nat.le_refl _) _, by simp, fun j => cell_of_row _ _ _ _ _ (0, 0) (heap_alloc_new wr _)⟩
          have HW := Lib.hid hW
          clear hW
          have eg : ∀ args w, (callFunc 82 args).run Tryz.prog w = .ok (.enter 82 args) w := enters_of Tryz.func82 (by kernel_rfl) rfl
          have hcon := contains_sib 82 #[.pointer (some ⟨wr.heap.size, 0, none⟩)] eg ⟨some ⟨a, ao, none⟩, xc, xs⟩ (fun b => supB xs[k].er b.er) (wr.alloc (Obj.cells #[xs[k].vv.val, Value.bool xs[k].gone, Value.string xs[k].text] 42))
            (hAt.out.belowAll HW.out.1) (fun W x hxm hbW => areSibs_clo xs[k] x wr.heap.size W
              (by rw [hbW.cell (by rw [HW.out.2.1]; simp), HW.out.2.2]; rfl) (by rw [hbW.cell (by rw [HW.out.2.1]; simp), HW.out.2.2]; rfl) (by rw [hbW.cell (by rw [HW.out.2.1]; simp), HW.out.2.2]; rfl)
              (Dat.belowAll (Dat.belowAll (hAt.out.elem (List.getElem_mem hlt)) HW.out.1) hbW) (Dat.belowAll (Dat.belowAll (hAt.out.elem hxm) HW.out.1) hbW)
              (by
                obtain ⟨j, hj, rfl⟩ := List.getElem_of_mem hxm
                have e1 := sibB_len (HO.out k hlt).1
                have e2 := sibB_len (HO.out j hj).1
                simp only [LSib.er] at e1 e2
                rw [e1, e2]; exact Nat.le_refl _))
          change Calls Tryz.prog _ #[.slice (some ⟨a, ao, none⟩) xs.length xc, _] _ _ at hcon
          have HCON := Lib.hid hcon
          clear hcon
          cases hany : xs.any (fun b => supB xs[k].er b.er) with
          | true =>
            have HA := Lib.hid hany
            have HCON2 := HCON
            rw [hany] at HCON2
            clear hany HCON
            go_wp2_with (go_at_call 81; refine HCON2.out.mono ?_; rintro e w' ⟨rfl, hb2⟩)
            go_ret
            refine ⟨ret_bool (sibsB_false fun h => ?_).symm, (hb.trans (HW.out.1.mono hb.size)).trans (hb2.mono (by rw [HW.out.2.1]; have := hb.size; omega))⟩
            obtain ⟨b, hbm, hbs⟩ := List.any_eq_true.1 HA.out
            rw [h.free _ (List.mem_map.2 ⟨_, List.getElem_mem hlt, rfl⟩) _ (List.mem_map.2 ⟨b, hbm, rfl⟩)] at hbs
            cases hbs
          | false =>
            have HA := Lib.hid hany
            have HCON2 := HCON
            rw [hany] at HCON2
            clear hany HCON
            go_wp2_with (go_at_call 81; refine HCON2.out.mono ?_; rintro e w' ⟨rfl, hb2⟩)
            go_roundw
            case rel =>
              refine ⟨k + 1, by omega, by go_num, fun j hj hj' b hbm => ?_, (hb.trans (HW.out.1.mono hb.size)).trans (hb2.mono (by rw [HW.out.2.1]; have := hb.size; omega))⟩
              by_cases hjk : j < k
              · exact HR.out j hjk hj' b hbm
              · obtain rfl : j = k := by omega
                have := List.any_eq_false.1 HA.out b hbm
                simpa using this
            case measure => simp [intOf]; omega
        · have hkk : k = xs.length := by omega
          subst hkk
          have HO2 := Lib.hid (show ∀ j (h : j < xs.length), ∀ b ∈ xs, supB xs[j].er b.er = false from fun j h => HR.out j h h)
          by_cases hl1 : 1 ≤ (xs.length : Int)
          · by_cases hl2 : (xs.length : Int) ≤ 12
            · go_wp2_with fail
              go_ret
              refine ⟨ret_bool (sibsB_true ⟨fun i h => ?_, fun i h => ?_, fun a ha b hb => ?_, ?_, ?_⟩).symm, hb⟩
              · rw [List.getElem_map]; exact (HO.out i (by simpa using h)).1
              · rw [List.getElem_map, List.getElem_map]; exact (HO.out (i + 1) (by simpa using h)).2 i rfl
              · obtain ⟨a', ha', rfl⟩ := List.mem_map.1 ha
                obtain ⟨b', hb', rfl⟩ := List.mem_map.1 hb
                obtain ⟨j, hj, rfl⟩ := List.getElem_of_mem ha'
                exact HO2.out j hj b' hb'
              · simp; omega
              · simp; omega
            · go_wp2_with fail
              go_ret
              exact ⟨ret_bool (sibsB_false fun h => (by have := h.few; simp at this; omega)).symm, hb⟩
          · go_wp2_with fail
            go_ret
            exact ⟨ret_bool (sibsB_false fun h => (by have := h.some_; simp at this; omega)).symm, hb⟩
end Go.Proofs.YtdidkfadiaafiaaGreatDoor
