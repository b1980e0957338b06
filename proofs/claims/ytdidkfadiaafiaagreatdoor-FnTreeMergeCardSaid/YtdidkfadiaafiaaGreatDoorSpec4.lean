/- The reference's l3Name, TreeOk: they answer as the program's. -/
import Derived.Test.YtdidkfadiaafiaaGreatDoorSpec3
namespace Go.Proofs.YtdidkfadiaafiaaGreatDoor
open Go Go.RowKit

set_option maxRecDepth 100000 in
theorem sl3Name_any (s : ByteArray) (w : World) (hs : s.size ≤ 9223372036854775807) : Calls Tryz.prog 57 #[.string s] w fun e w' => e = .returned (.bool (nameB s)) ∧ w = w' := by
  obtain ⟨⟨l⟩⟩ := s
  match l, hs with
  | [], _ =>
    go_enter Tryz.func57, Tryz.ntmps57
    go_wp2_with fail
    go_ret
    exact ⟨rfl, rfl⟩
  | [c], _ =>
    have h0 := c.toNat_lt
    have h2 := l6In_any (c.toNat : Int) 65 70 w
    rw [show decide (65 ≤ (c.toNat : Int) ∧ (c.toNat : Int) ≤ 70) = nameB ⟨#[c]⟩ from by
      simp only [nameB]; rw [Bool.eq_iff_iff]; simp; omega] at h2
    have H2 := Lib.hid h2
    clear h2
    have hwb : wrap64 (((⟨#[c]⟩ : ByteArray)[0]'(show 0 < 1 by decide)).toNat : Int) = (c.toNat : Int) := by
      show wrap64 (c.toNat : Int) = _
      unfold wrap64; omega
    go_enter Tryz.func57, Tryz.ntmps57
    go_wp2_with (go_at_call 89; rw [hwb]; refine H2.out.mono ?_; rintro e w' ⟨rfl, rfl⟩)
    go_ret
    exact ⟨rfl, rfl⟩
  | c :: d :: r, hs =>
    have hl : (((r.length + 2 : Nat) : Int) == 1) = false := by
      rw [beq_eq_false_iff_ne]; omega
    go_enter Tryz.func57, Tryz.ntmps57
    go_wp2_with fail
    go_ret
    refine ⟨ret_bool ?_, rfl⟩
    simp [nameB]
    try omega

set_option maxRecDepth 100000 in
set_option maxHeartbeats 4000000 in
theorem sTreeOk_any (x : Loc LFile) (w : World) (hx : x.At w) :
    Calls Tryz.prog 29 #[x.val] w fun e w' => e = .returned (.bool (treeB (x.xs.map LFile.er))) ∧ Below w.heap.size w w' := by
  obtain ⟨xa, xc, xs⟩ := x
  simp only [Loc.val]
  have h1 := hx.lenMax
  simp only at h1
  go_enter Tryz.func29, Tryz.ntmps29
  go_wp2_with fail
  go_loopw [3] (fun i wr => ∃ k : Nat, k ≤ xs.length ∧ i = .int .i64 k ∧ (∀ j (h : j < k) (h' : j < xs.length), nameB xs[j].name = true ∧ sibsB (xs[j].sibs.xs.map LSib.er) = true ∧ ∀ m (hm : m + 1 = j), strLt xs[m].name xs[j].name = true) ∧ Below w.heap.size w wr) (fun i _ => xs.length - (intOf i).toNat)
  case atStart => exact ⟨0, Nat.zero_le _, rfl, fun j h => absurd h (by omega), Below.refl _ _⟩
  case round =>
    obtain ⟨k, hk, rfl, hrel, hb⟩ := hrel
    have HR := Lib.hid hrel
    clear hrel
    by_cases hlt : k < xs.length
    · obtain ⟨a, ao, ha⟩ := hx.place hlt
      simp only at ha
      subst ha
      have hAw := Lib.hid (hx.belowAll hb)
      cases hs : nameB xs[k].name with
      | false =>
        have HS := Lib.hid hs
        clear hs
        go_wp2_with fail
        have HF : Hid (∀ w', Below wr.heap.size wr w' → (w'.cell? ⟨a, ao + k * 2, none⟩ = some (.string xs[k].name) ∧ w'.cell? ⟨a, ao + k * 2 + 1, none⟩ = some xs[k].sibs.val) ∧
            (w'.cell? ⟨a, ao + k * 2, none⟩ = some (.string xs[k].name) ∧ w'.cell? ⟨a, ao + k * 2 + 1, none⟩ = some xs[k].sibs.val)) := fun w' h =>
          ⟨(hAw.out.belowAll h).file rfl hlt, (hAw.out.belowAll h).file rfl ‹_›⟩
        refine wp_region_inv 34 (by kernel_rfl) (by kernel_rfl) (fun w' => Below wr.heap.size wr w') (Below.refl _ _).drew ?_
        simp only [List.take_succ_cons, List.take_zero, List.drop_succ_cons, List.drop_zero]
        refine' wpInv_step (by rfl) (fun w' hI => ?_) ?_
        rotate_left
        · have hf := HF.out w' hI
          unfold invAt
          go_simp
          first | exact rfl | exact ⟨rfl, hI⟩
        simp only [Act.put, List.setIfInBounds_toArray, List.set_cons_zero, List.set_cons_succ]
        refine' wpInv_step (by rfl) (fun w' hI => ?_) ?_
        rotate_left
        · have hf := HF.out w' hI
          unfold invAt
          go_simp
          first | exact rfl | exact ⟨rfl, hI⟩
        simp only [Act.put, List.setIfInBounds_toArray, List.set_cons_zero, List.set_cons_succ]
        refine' wpInv_step (by rfl) (fun w' hI => ?_) ?_
        rotate_left
        · have hf := HF.out w' hI
          unfold invAt
          go_simp
          first | exact rfl | exact ⟨rfl, hI⟩
        simp only [Act.put, List.setIfInBounds_toArray, List.set_cons_zero, List.set_cons_succ]
        refine' wpInv_step (by rfl) (fun w' hI => ?_) ?_
        rotate_left
        · have hf := HF.out w' hI
          unfold invAt
          go_simp
          first | exact rfl | exact ⟨rfl, hI⟩
        simp only [Act.put, List.setIfInBounds_toArray, List.set_cons_zero, List.set_cons_succ]
        refine' wpInv_step (by rfl) (fun w' hI => ?_) ?_
        rotate_left
        · have hf := HF.out w' hI
          unfold invAt
          go_simp
          first | exact rfl | exact ⟨rfl, hI⟩
        simp only [Act.put, List.setIfInBounds_toArray, List.set_cons_zero, List.set_cons_succ]
        refine' wpInv_step (by rfl) (fun w' hI => ?_) ?_
        rotate_left
        · have hf := HF.out w' hI
          unfold invAt
          go_simp
          clear hf
          refine (sl3Name_any xs[k].name w' (hAw.out.elem (List.getElem_mem hlt)).2).mono ?_
          rw [HS.out]
          rintro e w'' ⟨rfl, rfl⟩
          exact ⟨rfl, hI⟩
        simp only [Act.put, List.setIfInBounds_toArray, List.set_cons_zero, List.set_cons_succ]
        refine' wpInv_step (by rfl) (fun w' hI => ?_) ?_
        rotate_left
        · have hf := HF.out w' hI
          unfold invAt
          go_simp
          first | exact rfl | exact ⟨rfl, hI⟩
        simp only [Act.put, List.setIfInBounds_toArray, List.set_cons_zero, List.set_cons_succ]
        refine' wpInv_step (by rfl) (fun w' hI => ?_) ?_
        rotate_left
        · have hf := HF.out w' hI
          unfold invAt
          go_simp
          first | exact rfl | exact ⟨rfl, hI⟩
        simp only [Act.put, List.setIfInBounds_toArray, List.set_cons_zero, List.set_cons_succ]
        refine wpInv_pass (by rfl) ?_
        simp only [Act.put, List.setIfInBounds_toArray, List.set_cons_zero, List.set_cons_succ]
        refine wpInv_pass (by rfl) ?_
        simp only [Act.put, List.setIfInBounds_toArray, List.set_cons_zero, List.set_cons_succ]
        refine wpInv_pass (by rfl) ?_
        simp only [Act.put, List.setIfInBounds_toArray, List.set_cons_zero, List.set_cons_succ]
        refine wpInv_pass (by rfl) ?_
        simp only [Act.put, List.setIfInBounds_toArray, List.set_cons_zero, List.set_cons_succ]
        refine wpInv_pass (by rfl) ?_
        simp only [Act.put, List.setIfInBounds_toArray, List.set_cons_zero, List.set_cons_succ]
        refine wpInv_pass (by rfl) ?_
        simp only [Act.put, List.setIfInBounds_toArray, List.set_cons_zero, List.set_cons_succ]
        refine wpInv_pass (by rfl) ?_
        simp only [Act.put, List.setIfInBounds_toArray, List.set_cons_zero, List.set_cons_succ]
        refine' wpInv_step (by rfl) (fun w' hI => ?_) ?_
        rotate_left
        · have hf := HF.out w' hI
          unfold invAt
          go_simp
          first | exact rfl | exact ⟨rfl, hI⟩
        simp only [Act.put, List.setIfInBounds_toArray, List.set_cons_zero, List.set_cons_succ]
        refine' wpInv_step (by rfl) (fun w' hI => ?_) ?_
        rotate_left
        · have hf := HF.out w' hI
          unfold invAt
          go_simp
          first | exact rfl | exact ⟨rfl, hI⟩
        simp only [Act.put, List.setIfInBounds_toArray, List.set_cons_zero, List.set_cons_succ]
        refine wpInv_pass (by rfl) ?_
        simp only [Act.put, List.setIfInBounds_toArray, List.set_cons_zero, List.set_cons_succ]
        refine wpInv_pass (by rfl) ?_
        simp only [Act.put, List.setIfInBounds_toArray, List.set_cons_zero, List.set_cons_succ]
        refine wpInv_pass (by rfl) ?_
        simp only [Act.put, List.setIfInBounds_toArray, List.set_cons_zero, List.set_cons_succ]
        refine wpInv_pass (by rfl) ?_
        simp only [Act.put, List.setIfInBounds_toArray, List.set_cons_zero, List.set_cons_succ]
        refine wpInv_pass (by rfl) ?_
        simp only [Act.put, List.setIfInBounds_toArray, List.set_cons_zero, List.set_cons_succ]
        refine wpInv_pass (by rfl) ?_
        simp only [Act.put, List.setIfInBounds_toArray, List.set_cons_zero, List.set_cons_succ]
        refine wpInv_pass (by rfl) ?_
        simp only [Act.put, List.setIfInBounds_toArray, List.set_cons_zero, List.set_cons_succ]
        refine wpInv_pass (by rfl) ?_
        simp only [Act.put, List.setIfInBounds_toArray, List.set_cons_zero, List.set_cons_succ]
        refine wpInv_pass (by rfl) ?_
        simp only [Act.put, List.setIfInBounds_toArray, List.set_cons_zero, List.set_cons_succ]
        refine wpInv_pass (by rfl) ?_
        simp only [Act.put, List.setIfInBounds_toArray, List.set_cons_zero, List.set_cons_succ]
        refine wpInv_pass (by rfl) ?_
        simp only [Act.put, List.setIfInBounds_toArray, List.set_cons_zero, List.set_cons_succ]
        refine wpInv_pass (by rfl) ?_
        simp only [Act.put, List.setIfInBounds_toArray, List.set_cons_zero, List.set_cons_succ]
        refine wpInv_pass (by rfl) ?_
        simp only [Act.put, List.setIfInBounds_toArray, List.set_cons_zero, List.set_cons_succ]
        refine wpInv_pass (by rfl) ?_
        simp only [Act.put, List.setIfInBounds_toArray, List.set_cons_zero, List.set_cons_succ]
        refine wpInv_pass (by rfl) ?_
        simp only [Act.put, List.setIfInBounds_toArray, List.set_cons_zero, List.set_cons_succ]
        refine wpInv_pass (by rfl) ?_
        simp only [Act.put, List.setIfInBounds_toArray, List.set_cons_zero, List.set_cons_succ]
        refine' wpInv_step (by rfl) (fun w' hI => ?_) ?_
        rotate_left
        · have hf := HF.out w' hI
          unfold invAt
          go_simp
          first | exact rfl | exact ⟨rfl, hI⟩
        simp only [Act.put, List.setIfInBounds_toArray, List.set_cons_zero, List.set_cons_succ]
        intro w1 hI
        go_wp2_with fail
        go_ret
        refine ⟨ret_bool (treeB_false fun h => ?_).symm, hb.trans (hI.mono hb.size)⟩
        have := h.name k (by simpa using hlt)
        rw [List.getElem_map] at this
        rw [LFile.er, HS.out] at this
        cases this
      | true =>
        have HS := Lib.hid hs
        clear hs
        cases ht : sibsB (xs[k].sibs.xs.map LSib.er) with
        | false =>
          have HT := Lib.hid ht
          clear ht
          go_wp2_with fail
          have HF : Hid (∀ w', Below wr.heap.size wr w' → (w'.cell? ⟨a, ao + k * 2, none⟩ = some (.string xs[k].name) ∧ w'.cell? ⟨a, ao + k * 2 + 1, none⟩ = some xs[k].sibs.val) ∧
              (w'.cell? ⟨a, ao + k * 2, none⟩ = some (.string xs[k].name) ∧ w'.cell? ⟨a, ao + k * 2 + 1, none⟩ = some xs[k].sibs.val)) := fun w' h =>
            ⟨(hAw.out.belowAll h).file rfl hlt, (hAw.out.belowAll h).file rfl ‹_›⟩
          refine wp_region_inv 34 (by kernel_rfl) (by kernel_rfl) (fun w' => Below wr.heap.size wr w') (Below.refl _ _).drew ?_
          simp only [List.take_succ_cons, List.take_zero, List.drop_succ_cons, List.drop_zero]
          refine' wpInv_step (by rfl) (fun w' hI => ?_) ?_
          rotate_left
          · have hf := HF.out w' hI
            unfold invAt
            go_simp
            first | exact rfl | exact ⟨rfl, hI⟩
          simp only [Act.put, List.setIfInBounds_toArray, List.set_cons_zero, List.set_cons_succ]
          refine' wpInv_step (by rfl) (fun w' hI => ?_) ?_
          rotate_left
          · have hf := HF.out w' hI
            unfold invAt
            go_simp
            first | exact rfl | exact ⟨rfl, hI⟩
          simp only [Act.put, List.setIfInBounds_toArray, List.set_cons_zero, List.set_cons_succ]
          refine' wpInv_step (by rfl) (fun w' hI => ?_) ?_
          rotate_left
          · have hf := HF.out w' hI
            unfold invAt
            go_simp
            first | exact rfl | exact ⟨rfl, hI⟩
          simp only [Act.put, List.setIfInBounds_toArray, List.set_cons_zero, List.set_cons_succ]
          refine' wpInv_step (by rfl) (fun w' hI => ?_) ?_
          rotate_left
          · have hf := HF.out w' hI
            unfold invAt
            go_simp
            first | exact rfl | exact ⟨rfl, hI⟩
          simp only [Act.put, List.setIfInBounds_toArray, List.set_cons_zero, List.set_cons_succ]
          refine' wpInv_step (by rfl) (fun w' hI => ?_) ?_
          rotate_left
          · have hf := HF.out w' hI
            unfold invAt
            go_simp
            first | exact rfl | exact ⟨rfl, hI⟩
          simp only [Act.put, List.setIfInBounds_toArray, List.set_cons_zero, List.set_cons_succ]
          refine' wpInv_step (by rfl) (fun w' hI => ?_) ?_
          rotate_left
          · have hf := HF.out w' hI
            unfold invAt
            go_simp
            clear hf
            refine (sl3Name_any xs[k].name w' (hAw.out.elem (List.getElem_mem hlt)).2).mono ?_
            rw [HS.out]
            rintro e w'' ⟨rfl, rfl⟩
            exact ⟨rfl, hI⟩
          simp only [Act.put, List.setIfInBounds_toArray, List.set_cons_zero, List.set_cons_succ]
          refine' wpInv_step (by rfl) (fun w' hI => ?_) ?_
          rotate_left
          · have hf := HF.out w' hI
            unfold invAt
            go_simp
            first | exact rfl | exact ⟨rfl, hI⟩
          simp only [Act.put, List.setIfInBounds_toArray, List.set_cons_zero, List.set_cons_succ]
          refine' wpInv_step (by rfl) (fun w' hI => ?_) ?_
          rotate_left
          · have hf := HF.out w' hI
            unfold invAt
            go_simp
            first | exact rfl | exact ⟨rfl, hI⟩
          simp only [Act.put, List.setIfInBounds_toArray, List.set_cons_zero, List.set_cons_succ]
          refine' wpInv_step (by rfl) (fun w' hI => ?_) ?_
          rotate_left
          · have hf := HF.out w' hI
            unfold invAt
            go_simp
            first | exact rfl | exact ⟨rfl, hI⟩
          simp only [Act.put, List.setIfInBounds_toArray, List.set_cons_zero, List.set_cons_succ]
          refine' wpInv_step (by rfl) (fun w' hI => ?_) ?_
          rotate_left
          · have hf := HF.out w' hI
            unfold invAt
            go_simp
            first | exact rfl | exact ⟨rfl, hI⟩
          simp only [Act.put, List.setIfInBounds_toArray, List.set_cons_zero, List.set_cons_succ]
          refine' wpInv_step (by rfl) (fun w' hI => ?_) ?_
          rotate_left
          · have hf := HF.out w' hI
            unfold invAt
            go_simp
            first | exact rfl | exact ⟨rfl, hI⟩
          simp only [Act.put, List.setIfInBounds_toArray, List.set_cons_zero, List.set_cons_succ]
          refine' wpInv_step (by rfl) (fun w' hI => ?_) ?_
          rotate_left
          · have hf := HF.out w' hI
            unfold invAt
            go_simp
            first | exact rfl | exact ⟨rfl, hI⟩
          simp only [Act.put, List.setIfInBounds_toArray, List.set_cons_zero, List.set_cons_succ]
          refine' wpInv_step (by rfl) (fun w' hI => ?_) ?_
          rotate_left
          · have hf := HF.out w' hI
            unfold invAt
            go_simp
            first | exact rfl | exact ⟨rfl, hI⟩
          simp only [Act.put, List.setIfInBounds_toArray, List.set_cons_zero, List.set_cons_succ]
          refine' wpInv_step (by rfl) (fun w' hI => ?_) ?_
          rotate_left
          · have hf := HF.out w' hI
            unfold invAt
            go_simp
            clear hf
            refine (sSibsOk_any xs[k].sibs w' ((hAw.out.belowAll hI).elem (List.getElem_mem hlt)).1).mono ?_
            rw [HT.out]
            rintro e w'' ⟨rfl, hb2⟩
            exact ⟨rfl, hI.trans (hb2.mono hI.size)⟩
          simp only [Act.put, List.setIfInBounds_toArray, List.set_cons_zero, List.set_cons_succ]
          refine' wpInv_step (by rfl) (fun w' hI => ?_) ?_
          rotate_left
          · have hf := HF.out w' hI
            unfold invAt
            go_simp
            first | exact rfl | exact ⟨rfl, hI⟩
          simp only [Act.put, List.setIfInBounds_toArray, List.set_cons_zero, List.set_cons_succ]
          refine' wpInv_step (by rfl) (fun w' hI => ?_) ?_
          rotate_left
          · have hf := HF.out w' hI
            unfold invAt
            go_simp
            first | exact rfl | exact ⟨rfl, hI⟩
          simp only [Act.put, List.setIfInBounds_toArray, List.set_cons_zero, List.set_cons_succ]
          refine' wpInv_step (by rfl) (fun w' hI => ?_) ?_
          rotate_left
          · have hf := HF.out w' hI
            unfold invAt
            go_simp
            first | exact rfl | exact ⟨rfl, hI⟩
          simp only [Act.put, List.setIfInBounds_toArray, List.set_cons_zero, List.set_cons_succ]
          refine wpInv_pass (by rfl) ?_
          simp only [Act.put, List.setIfInBounds_toArray, List.set_cons_zero, List.set_cons_succ]
          refine wpInv_pass (by rfl) ?_
          simp only [Act.put, List.setIfInBounds_toArray, List.set_cons_zero, List.set_cons_succ]
          refine wpInv_pass (by rfl) ?_
          simp only [Act.put, List.setIfInBounds_toArray, List.set_cons_zero, List.set_cons_succ]
          refine wpInv_pass (by rfl) ?_
          simp only [Act.put, List.setIfInBounds_toArray, List.set_cons_zero, List.set_cons_succ]
          refine wpInv_pass (by rfl) ?_
          simp only [Act.put, List.setIfInBounds_toArray, List.set_cons_zero, List.set_cons_succ]
          refine wpInv_pass (by rfl) ?_
          simp only [Act.put, List.setIfInBounds_toArray, List.set_cons_zero, List.set_cons_succ]
          refine wpInv_pass (by rfl) ?_
          simp only [Act.put, List.setIfInBounds_toArray, List.set_cons_zero, List.set_cons_succ]
          refine wpInv_pass (by rfl) ?_
          simp only [Act.put, List.setIfInBounds_toArray, List.set_cons_zero, List.set_cons_succ]
          refine wpInv_pass (by rfl) ?_
          simp only [Act.put, List.setIfInBounds_toArray, List.set_cons_zero, List.set_cons_succ]
          refine wpInv_pass (by rfl) ?_
          simp only [Act.put, List.setIfInBounds_toArray, List.set_cons_zero, List.set_cons_succ]
          refine wpInv_pass (by rfl) ?_
          simp only [Act.put, List.setIfInBounds_toArray, List.set_cons_zero, List.set_cons_succ]
          refine wpInv_pass (by rfl) ?_
          simp only [Act.put, List.setIfInBounds_toArray, List.set_cons_zero, List.set_cons_succ]
          refine wpInv_pass (by rfl) ?_
          simp only [Act.put, List.setIfInBounds_toArray, List.set_cons_zero, List.set_cons_succ]
          refine wpInv_pass (by rfl) ?_
          simp only [Act.put, List.setIfInBounds_toArray, List.set_cons_zero, List.set_cons_succ]
          refine wpInv_pass (by rfl) ?_
          simp only [Act.put, List.setIfInBounds_toArray, List.set_cons_zero, List.set_cons_succ]
          refine wpInv_pass (by rfl) ?_
          simp only [Act.put, List.setIfInBounds_toArray, List.set_cons_zero, List.set_cons_succ]
          refine' wpInv_step (by rfl) (fun w' hI => ?_) ?_
          rotate_left
          · have hf := HF.out w' hI
            unfold invAt
            go_simp
            first | exact rfl | exact ⟨rfl, hI⟩
          simp only [Act.put, List.setIfInBounds_toArray, List.set_cons_zero, List.set_cons_succ]
          intro w1 hI
          go_wp2_with fail
          go_ret
          refine ⟨ret_bool (treeB_false fun h => ?_).symm, hb.trans (hI.mono hb.size)⟩
          have := h.sibs k (by simpa using hlt)
          rw [List.getElem_map] at this
          have h3 := sibsB_true this
          rw [LFile.er, HT.out] at h3
          cases h3
        | true =>
          have HT := Lib.hid ht
          clear ht
          by_cases hk0 : k = 0
          · have HK0 := Lib.hid hk0
            have hkz : decide ((0 : Int) < (k : Int)) = false := decide_eq_false (by omega)
            have hkz2 : decide (0 < k) = false := decide_eq_false (by omega)
            clear hk0
            go_wp2_with fail
            have HF : Hid (∀ w', Below wr.heap.size wr w' → (w'.cell? ⟨a, ao + k * 2, none⟩ = some (.string xs[k].name) ∧ w'.cell? ⟨a, ao + k * 2 + 1, none⟩ = some xs[k].sibs.val) ∧
                (w'.cell? ⟨a, ao + k * 2, none⟩ = some (.string xs[k].name) ∧ w'.cell? ⟨a, ao + k * 2 + 1, none⟩ = some xs[k].sibs.val)) := fun w' h =>
              ⟨(hAw.out.belowAll h).file rfl hlt, (hAw.out.belowAll h).file rfl ‹_›⟩
            refine wp_region_inv 34 (by kernel_rfl) (by kernel_rfl) (fun w' => Below wr.heap.size wr w') (Below.refl _ _).drew ?_
            simp only [List.take_succ_cons, List.take_zero, List.drop_succ_cons, List.drop_zero]
            refine' wpInv_step (by rfl) (fun w' hI => ?_) ?_
            rotate_left
            · have hf := HF.out w' hI
              unfold invAt
              go_simp
              first | exact rfl | exact ⟨rfl, hI⟩
            simp only [Act.put, List.setIfInBounds_toArray, List.set_cons_zero, List.set_cons_succ]
            refine' wpInv_step (by rfl) (fun w' hI => ?_) ?_
            rotate_left
            · have hf := HF.out w' hI
              unfold invAt
              go_simp
              first | exact rfl | exact ⟨rfl, hI⟩
            simp only [Act.put, List.setIfInBounds_toArray, List.set_cons_zero, List.set_cons_succ]
            refine' wpInv_step (by rfl) (fun w' hI => ?_) ?_
            rotate_left
            · have hf := HF.out w' hI
              unfold invAt
              go_simp
              first | exact rfl | exact ⟨rfl, hI⟩
            simp only [Act.put, List.setIfInBounds_toArray, List.set_cons_zero, List.set_cons_succ]
            refine' wpInv_step (by rfl) (fun w' hI => ?_) ?_
            rotate_left
            · have hf := HF.out w' hI
              unfold invAt
              go_simp
              first | exact rfl | exact ⟨rfl, hI⟩
            simp only [Act.put, List.setIfInBounds_toArray, List.set_cons_zero, List.set_cons_succ]
            refine' wpInv_step (by rfl) (fun w' hI => ?_) ?_
            rotate_left
            · have hf := HF.out w' hI
              unfold invAt
              go_simp
              first | exact rfl | exact ⟨rfl, hI⟩
            simp only [Act.put, List.setIfInBounds_toArray, List.set_cons_zero, List.set_cons_succ]
            refine' wpInv_step (by rfl) (fun w' hI => ?_) ?_
            rotate_left
            · have hf := HF.out w' hI
              unfold invAt
              go_simp
              clear hf
              refine (sl3Name_any xs[k].name w' (hAw.out.elem (List.getElem_mem hlt)).2).mono ?_
              rw [HS.out]
              rintro e w'' ⟨rfl, rfl⟩
              exact ⟨rfl, hI⟩
            simp only [Act.put, List.setIfInBounds_toArray, List.set_cons_zero, List.set_cons_succ]
            refine' wpInv_step (by rfl) (fun w' hI => ?_) ?_
            rotate_left
            · have hf := HF.out w' hI
              unfold invAt
              go_simp
              first | exact rfl | exact ⟨rfl, hI⟩
            simp only [Act.put, List.setIfInBounds_toArray, List.set_cons_zero, List.set_cons_succ]
            refine' wpInv_step (by rfl) (fun w' hI => ?_) ?_
            rotate_left
            · have hf := HF.out w' hI
              unfold invAt
              go_simp
              first | exact rfl | exact ⟨rfl, hI⟩
            simp only [Act.put, List.setIfInBounds_toArray, List.set_cons_zero, List.set_cons_succ]
            refine' wpInv_step (by rfl) (fun w' hI => ?_) ?_
            rotate_left
            · have hf := HF.out w' hI
              unfold invAt
              go_simp
              first | exact rfl | exact ⟨rfl, hI⟩
            simp only [Act.put, List.setIfInBounds_toArray, List.set_cons_zero, List.set_cons_succ]
            refine' wpInv_step (by rfl) (fun w' hI => ?_) ?_
            rotate_left
            · have hf := HF.out w' hI
              unfold invAt
              go_simp
              first | exact rfl | exact ⟨rfl, hI⟩
            simp only [Act.put, List.setIfInBounds_toArray, List.set_cons_zero, List.set_cons_succ]
            refine' wpInv_step (by rfl) (fun w' hI => ?_) ?_
            rotate_left
            · have hf := HF.out w' hI
              unfold invAt
              go_simp
              first | exact rfl | exact ⟨rfl, hI⟩
            simp only [Act.put, List.setIfInBounds_toArray, List.set_cons_zero, List.set_cons_succ]
            refine' wpInv_step (by rfl) (fun w' hI => ?_) ?_
            rotate_left
            · have hf := HF.out w' hI
              unfold invAt
              go_simp
              first | exact rfl | exact ⟨rfl, hI⟩
            simp only [Act.put, List.setIfInBounds_toArray, List.set_cons_zero, List.set_cons_succ]
            refine' wpInv_step (by rfl) (fun w' hI => ?_) ?_
            rotate_left
            · have hf := HF.out w' hI
              unfold invAt
              go_simp
              first | exact rfl | exact ⟨rfl, hI⟩
            simp only [Act.put, List.setIfInBounds_toArray, List.set_cons_zero, List.set_cons_succ]
            refine' wpInv_step (by rfl) (fun w' hI => ?_) ?_
            rotate_left
            · have hf := HF.out w' hI
              unfold invAt
              go_simp
              clear hf
              refine (sSibsOk_any xs[k].sibs w' ((hAw.out.belowAll hI).elem (List.getElem_mem hlt)).1).mono ?_
              rw [HT.out]
              rintro e w'' ⟨rfl, hb2⟩
              exact ⟨rfl, hI.trans (hb2.mono hI.size)⟩
            simp only [Act.put, List.setIfInBounds_toArray, List.set_cons_zero, List.set_cons_succ]
            refine' wpInv_step (by rfl) (fun w' hI => ?_) ?_
            rotate_left
            · have hf := HF.out w' hI
              unfold invAt
              go_simp
              first | exact rfl | exact ⟨rfl, hI⟩
            simp only [Act.put, List.setIfInBounds_toArray, List.set_cons_zero, List.set_cons_succ]
            refine' wpInv_step (by rfl) (fun w' hI => ?_) ?_
            rotate_left
            · have hf := HF.out w' hI
              unfold invAt
              go_simp
              first | exact rfl | exact ⟨rfl, hI⟩
            simp only [Act.put, List.setIfInBounds_toArray, List.set_cons_zero, List.set_cons_succ]
            refine' wpInv_step (by rfl) (fun w' hI => ?_) ?_
            rotate_left
            · have hf := HF.out w' hI
              unfold invAt
              go_simp
              first | exact rfl | exact ⟨rfl, hI⟩
            simp only [Act.put, List.setIfInBounds_toArray, List.set_cons_zero, List.set_cons_succ]
            refine' wpInv_step (by rfl) (fun w' hI => ?_) ?_
            rotate_left
            · have hf := HF.out w' hI
              unfold invAt
              go_simp
              first | exact rfl | exact ⟨rfl, hI⟩
            simp only [Act.put, List.setIfInBounds_toArray, List.set_cons_zero, List.set_cons_succ]
            refine' wpInv_step (by rfl) (fun w' hI => ?_) ?_
            rotate_left
            · have hf := HF.out w' hI
              unfold invAt
              go_simp
              first | exact rfl | exact ⟨rfl, hI⟩
            simp only [Act.put, List.setIfInBounds_toArray, List.set_cons_zero, List.set_cons_succ]
            refine' wpInv_step (by rfl) (fun w' hI => ?_) ?_
            rotate_left
            · have hf := HF.out w' hI
              unfold invAt
              go_simp
              first | exact rfl | exact ⟨rfl, hI⟩
            simp only [Act.put, List.setIfInBounds_toArray, List.set_cons_zero, List.set_cons_succ]
            refine wpInv_pass (by rfl) ?_
            simp only [Act.put, List.setIfInBounds_toArray, List.set_cons_zero, List.set_cons_succ]
            refine wpInv_pass (by rfl) ?_
            simp only [Act.put, List.setIfInBounds_toArray, List.set_cons_zero, List.set_cons_succ]
            refine wpInv_pass (by rfl) ?_
            simp only [Act.put, List.setIfInBounds_toArray, List.set_cons_zero, List.set_cons_succ]
            refine wpInv_pass (by rfl) ?_
            simp only [Act.put, List.setIfInBounds_toArray, List.set_cons_zero, List.set_cons_succ]
            refine wpInv_pass (by rfl) ?_
            simp only [Act.put, List.setIfInBounds_toArray, List.set_cons_zero, List.set_cons_succ]
            refine wpInv_pass (by rfl) ?_
            simp only [Act.put, List.setIfInBounds_toArray, List.set_cons_zero, List.set_cons_succ]
            refine wpInv_pass (by rfl) ?_
            simp only [Act.put, List.setIfInBounds_toArray, List.set_cons_zero, List.set_cons_succ]
            refine wpInv_pass (by rfl) ?_
            simp only [Act.put, List.setIfInBounds_toArray, List.set_cons_zero, List.set_cons_succ]
            refine wpInv_pass (by rfl) ?_
            simp only [Act.put, List.setIfInBounds_toArray, List.set_cons_zero, List.set_cons_succ]
            refine wpInv_pass (by rfl) ?_
            simp only [Act.put, List.setIfInBounds_toArray, List.set_cons_zero, List.set_cons_succ]
            refine wpInv_pass (by rfl) ?_
            simp only [Act.put, List.setIfInBounds_toArray, List.set_cons_zero, List.set_cons_succ]
            refine wpInv_pass (by rfl) ?_
            simp only [Act.put, List.setIfInBounds_toArray, List.set_cons_zero, List.set_cons_succ]
            refine' wpInv_step (by rfl) (fun w' hI => ?_) ?_
            rotate_left
            · have hf := HF.out w' hI
              unfold invAt
              go_simp
              first | exact rfl | exact ⟨rfl, hI⟩
            simp only [Act.put, List.setIfInBounds_toArray, List.set_cons_zero, List.set_cons_succ]
            refine' wpInv_step (by rfl) (fun w' hI => ?_) ?_
            rotate_left
            · have hf := HF.out w' hI
              unfold invAt
              go_simp
              first | exact rfl | exact ⟨rfl, hI⟩
            simp only [Act.put, List.setIfInBounds_toArray, List.set_cons_zero, List.set_cons_succ]
            intro w1 hI
            go_wp2_with fail
            go_roundw
            case rel =>
              refine ⟨k + 1, by omega, by go_num, fun j hj hj' => ?_, hb.trans (hI.mono hb.size)⟩
              have hk0 := HK0.out
              obtain rfl : j = k := by omega
              exact ⟨HS.out, HT.out, fun m hm => by omega⟩
            case measure => simp [intOf]; omega
          · obtain ⟨m, hkm⟩ : ∃ m, k = m + 1 := ⟨k - 1, by omega⟩
            have hm : m < xs.length := by omega
            have hkz : decide ((0 : Int) < (k : Int)) = true := decide_eq_true (by omega)
            have hkz2 : decide (0 < k) = true := decide_eq_true (by omega)
            have hwm : IntKind.i64.wrap ((k : Int) - 1) = (m : Int) := by rw [IntWalk.i64_in _ (by omega)]; omega
            have HKM := Lib.hid hkm
            clear hkm hk0
            cases hc : strLt xs[m].name xs[k].name with
            | true =>
              have HC := Lib.hid hc
              unfold strLt at hc
              go_wp2_with fail
              have HF : Hid (∀ w', Below wr.heap.size wr w' → (w'.cell? ⟨a, ao + k * 2, none⟩ = some (.string xs[k].name) ∧ w'.cell? ⟨a, ao + k * 2 + 1, none⟩ = some xs[k].sibs.val) ∧
                  (w'.cell? ⟨a, ao + m * 2, none⟩ = some (.string xs[m].name) ∧ w'.cell? ⟨a, ao + m * 2 + 1, none⟩ = some xs[m].sibs.val)) := fun w' h =>
                ⟨(hAw.out.belowAll h).file rfl hlt, (hAw.out.belowAll h).file rfl ‹_›⟩
              refine wp_region_inv 34 (by kernel_rfl) (by kernel_rfl) (fun w' => Below wr.heap.size wr w') (Below.refl _ _).drew ?_
              simp only [List.take_succ_cons, List.take_zero, List.drop_succ_cons, List.drop_zero]
              refine' wpInv_step (by rfl) (fun w' hI => ?_) ?_
              rotate_left
              · have hf := HF.out w' hI
                unfold invAt
                go_simp
                first | exact rfl | exact ⟨rfl, hI⟩
              simp only [Act.put, List.setIfInBounds_toArray, List.set_cons_zero, List.set_cons_succ]
              refine' wpInv_step (by rfl) (fun w' hI => ?_) ?_
              rotate_left
              · have hf := HF.out w' hI
                unfold invAt
                go_simp
                first | exact rfl | exact ⟨rfl, hI⟩
              simp only [Act.put, List.setIfInBounds_toArray, List.set_cons_zero, List.set_cons_succ]
              refine' wpInv_step (by rfl) (fun w' hI => ?_) ?_
              rotate_left
              · have hf := HF.out w' hI
                unfold invAt
                go_simp
                first | exact rfl | exact ⟨rfl, hI⟩
              simp only [Act.put, List.setIfInBounds_toArray, List.set_cons_zero, List.set_cons_succ]
              refine' wpInv_step (by rfl) (fun w' hI => ?_) ?_
              rotate_left
              · have hf := HF.out w' hI
                unfold invAt
                go_simp
                first | exact rfl | exact ⟨rfl, hI⟩
              simp only [Act.put, List.setIfInBounds_toArray, List.set_cons_zero, List.set_cons_succ]
              refine' wpInv_step (by rfl) (fun w' hI => ?_) ?_
              rotate_left
              · have hf := HF.out w' hI
                unfold invAt
                go_simp
                first | exact rfl | exact ⟨rfl, hI⟩
              simp only [Act.put, List.setIfInBounds_toArray, List.set_cons_zero, List.set_cons_succ]
              refine' wpInv_step (by rfl) (fun w' hI => ?_) ?_
              rotate_left
              · have hf := HF.out w' hI
                unfold invAt
                go_simp
                clear hf
                refine (sl3Name_any xs[k].name w' (hAw.out.elem (List.getElem_mem hlt)).2).mono ?_
                rw [HS.out]
                rintro e w'' ⟨rfl, rfl⟩
                exact ⟨rfl, hI⟩
              simp only [Act.put, List.setIfInBounds_toArray, List.set_cons_zero, List.set_cons_succ]
              refine' wpInv_step (by rfl) (fun w' hI => ?_) ?_
              rotate_left
              · have hf := HF.out w' hI
                unfold invAt
                go_simp
                first | exact rfl | exact ⟨rfl, hI⟩
              simp only [Act.put, List.setIfInBounds_toArray, List.set_cons_zero, List.set_cons_succ]
              refine' wpInv_step (by rfl) (fun w' hI => ?_) ?_
              rotate_left
              · have hf := HF.out w' hI
                unfold invAt
                go_simp
                first | exact rfl | exact ⟨rfl, hI⟩
              simp only [Act.put, List.setIfInBounds_toArray, List.set_cons_zero, List.set_cons_succ]
              refine' wpInv_step (by rfl) (fun w' hI => ?_) ?_
              rotate_left
              · have hf := HF.out w' hI
                unfold invAt
                go_simp
                first | exact rfl | exact ⟨rfl, hI⟩
              simp only [Act.put, List.setIfInBounds_toArray, List.set_cons_zero, List.set_cons_succ]
              refine' wpInv_step (by rfl) (fun w' hI => ?_) ?_
              rotate_left
              · have hf := HF.out w' hI
                unfold invAt
                go_simp
                first | exact rfl | exact ⟨rfl, hI⟩
              simp only [Act.put, List.setIfInBounds_toArray, List.set_cons_zero, List.set_cons_succ]
              refine' wpInv_step (by rfl) (fun w' hI => ?_) ?_
              rotate_left
              · have hf := HF.out w' hI
                unfold invAt
                go_simp
                first | exact rfl | exact ⟨rfl, hI⟩
              simp only [Act.put, List.setIfInBounds_toArray, List.set_cons_zero, List.set_cons_succ]
              refine' wpInv_step (by rfl) (fun w' hI => ?_) ?_
              rotate_left
              · have hf := HF.out w' hI
                unfold invAt
                go_simp
                first | exact rfl | exact ⟨rfl, hI⟩
              simp only [Act.put, List.setIfInBounds_toArray, List.set_cons_zero, List.set_cons_succ]
              refine' wpInv_step (by rfl) (fun w' hI => ?_) ?_
              rotate_left
              · have hf := HF.out w' hI
                unfold invAt
                go_simp
                first | exact rfl | exact ⟨rfl, hI⟩
              simp only [Act.put, List.setIfInBounds_toArray, List.set_cons_zero, List.set_cons_succ]
              refine' wpInv_step (by rfl) (fun w' hI => ?_) ?_
              rotate_left
              · have hf := HF.out w' hI
                unfold invAt
                go_simp
                clear hf
                refine (sSibsOk_any xs[k].sibs w' ((hAw.out.belowAll hI).elem (List.getElem_mem hlt)).1).mono ?_
                rw [HT.out]
                rintro e w'' ⟨rfl, hb2⟩
                exact ⟨rfl, hI.trans (hb2.mono hI.size)⟩
              simp only [Act.put, List.setIfInBounds_toArray, List.set_cons_zero, List.set_cons_succ]
              refine' wpInv_step (by rfl) (fun w' hI => ?_) ?_
              rotate_left
              · have hf := HF.out w' hI
                unfold invAt
                go_simp
                first | exact rfl | exact ⟨rfl, hI⟩
              simp only [Act.put, List.setIfInBounds_toArray, List.set_cons_zero, List.set_cons_succ]
              refine' wpInv_step (by rfl) (fun w' hI => ?_) ?_
              rotate_left
              · have hf := HF.out w' hI
                unfold invAt
                go_simp
                first | exact rfl | exact ⟨rfl, hI⟩
              simp only [Act.put, List.setIfInBounds_toArray, List.set_cons_zero, List.set_cons_succ]
              refine' wpInv_step (by rfl) (fun w' hI => ?_) ?_
              rotate_left
              · have hf := HF.out w' hI
                unfold invAt
                go_simp
                first | exact rfl | exact ⟨rfl, hI⟩
              simp only [Act.put, List.setIfInBounds_toArray, List.set_cons_zero, List.set_cons_succ]
              refine' wpInv_step (by rfl) (fun w' hI => ?_) ?_
              rotate_left
              · have hf := HF.out w' hI
                unfold invAt
                go_simp
                first | exact rfl | exact ⟨rfl, hI⟩
              simp only [Act.put, List.setIfInBounds_toArray, List.set_cons_zero, List.set_cons_succ]
              refine' wpInv_step (by rfl) (fun w' hI => ?_) ?_
              rotate_left
              · have hf := HF.out w' hI
                unfold invAt
                go_simp
                first | exact rfl | exact ⟨rfl, hI⟩
              simp only [Act.put, List.setIfInBounds_toArray, List.set_cons_zero, List.set_cons_succ]
              refine' wpInv_step (by rfl) (fun w' hI => ?_) ?_
              rotate_left
              · have hf := HF.out w' hI
                unfold invAt
                go_simp
                first | exact rfl | exact ⟨rfl, hI⟩
              simp only [Act.put, List.setIfInBounds_toArray, List.set_cons_zero, List.set_cons_succ]
              refine' wpInv_step (by rfl) (fun w' hI => ?_) ?_
              rotate_left
              · have hf := HF.out w' hI
                unfold invAt
                go_simp
                first | exact rfl | exact ⟨rfl, hI⟩
              simp only [Act.put, List.setIfInBounds_toArray, List.set_cons_zero, List.set_cons_succ]
              refine' wpInv_step (by rfl) (fun w' hI => ?_) ?_
              rotate_left
              · have hf := HF.out w' hI
                unfold invAt
                go_simp
                first | exact rfl | exact ⟨rfl, hI⟩
              simp only [Act.put, List.setIfInBounds_toArray, List.set_cons_zero, List.set_cons_succ]
              refine' wpInv_step (by rfl) (fun w' hI => ?_) ?_
              rotate_left
              · have hf := HF.out w' hI
                unfold invAt
                go_simp
                first | exact rfl | exact ⟨rfl, hI⟩
              simp only [Act.put, List.setIfInBounds_toArray, List.set_cons_zero, List.set_cons_succ]
              refine' wpInv_step (by rfl) (fun w' hI => ?_) ?_
              rotate_left
              · have hf := HF.out w' hI
                unfold invAt
                go_simp
                first | exact rfl | exact ⟨rfl, hI⟩
              simp only [Act.put, List.setIfInBounds_toArray, List.set_cons_zero, List.set_cons_succ]
              refine' wpInv_step (by rfl) (fun w' hI => ?_) ?_
              rotate_left
              · have hf := HF.out w' hI
                unfold invAt
                go_simp
                first | exact rfl | exact ⟨rfl, hI⟩
              simp only [Act.put, List.setIfInBounds_toArray, List.set_cons_zero, List.set_cons_succ]
              refine' wpInv_step (by rfl) (fun w' hI => ?_) ?_
              rotate_left
              · have hf := HF.out w' hI
                unfold invAt
                go_simp
                first | exact rfl | exact ⟨rfl, hI⟩
              simp only [Act.put, List.setIfInBounds_toArray, List.set_cons_zero, List.set_cons_succ]
              refine' wpInv_step (by rfl) (fun w' hI => ?_) ?_
              rotate_left
              · have hf := HF.out w' hI
                unfold invAt
                go_simp
                first | exact rfl | exact ⟨rfl, hI⟩
              simp only [Act.put, List.setIfInBounds_toArray, List.set_cons_zero, List.set_cons_succ]
              refine' wpInv_step (by rfl) (fun w' hI => ?_) ?_
              rotate_left
              · have hf := HF.out w' hI
                unfold invAt
                go_simp
                first | exact rfl | exact ⟨rfl, hI⟩
              simp only [Act.put, List.setIfInBounds_toArray, List.set_cons_zero, List.set_cons_succ]
              refine' wpInv_step (by rfl) (fun w' hI => ?_) ?_
              rotate_left
              · have hf := HF.out w' hI
                unfold invAt
                go_simp
                first | exact rfl | exact ⟨rfl, hI⟩
              simp only [Act.put, List.setIfInBounds_toArray, List.set_cons_zero, List.set_cons_succ]
              refine' wpInv_step (by rfl) (fun w' hI => ?_) ?_
              rotate_left
              · have hf := HF.out w' hI
                unfold invAt
                go_simp
                first | exact rfl | exact ⟨rfl, hI⟩
              simp only [Act.put, List.setIfInBounds_toArray, List.set_cons_zero, List.set_cons_succ]
              refine' wpInv_step (by rfl) (fun w' hI => ?_) ?_
              rotate_left
              · have hf := HF.out w' hI
                unfold invAt
                go_simp
                first | exact rfl | exact ⟨rfl, hI⟩
              simp only [Act.put, List.setIfInBounds_toArray, List.set_cons_zero, List.set_cons_succ]
              refine' wpInv_step (by rfl) (fun w' hI => ?_) ?_
              rotate_left
              · have hf := HF.out w' hI
                unfold invAt
                go_simp
                first | exact rfl | exact ⟨rfl, hI⟩
              simp only [Act.put, List.setIfInBounds_toArray, List.set_cons_zero, List.set_cons_succ]
              refine' wpInv_step (by rfl) (fun w' hI => ?_) ?_
              rotate_left
              · have hf := HF.out w' hI
                unfold invAt
                go_simp
                first | exact rfl | exact ⟨rfl, hI⟩
              simp only [Act.put, List.setIfInBounds_toArray, List.set_cons_zero, List.set_cons_succ]
              refine' wpInv_step (by rfl) (fun w' hI => ?_) ?_
              rotate_left
              · have hf := HF.out w' hI
                unfold invAt
                go_simp
                first | exact rfl | exact ⟨rfl, hI⟩
              simp only [Act.put, List.setIfInBounds_toArray, List.set_cons_zero, List.set_cons_succ]
              intro w1 hI
              go_wp2_with fail
              go_roundw
              case rel =>
                refine ⟨k + 1, by omega, by go_num, fun j hj hj' => ?_, hb.trans (hI.mono hb.size)⟩
                by_cases hjk : j < k
                · exact HR.out j hjk hj'
                · obtain rfl : j = k := by omega
                  refine ⟨HS.out, HT.out, fun q hq => ?_⟩
                  have := HKM.out
                  obtain rfl : q = m := by omega
                  exact HC.out
              case measure => simp [intOf]; omega
            | false =>
              have HC := Lib.hid hc
              unfold strLt at hc
              go_wp2_with fail
              have HF : Hid (∀ w', Below wr.heap.size wr w' → (w'.cell? ⟨a, ao + k * 2, none⟩ = some (.string xs[k].name) ∧ w'.cell? ⟨a, ao + k * 2 + 1, none⟩ = some xs[k].sibs.val) ∧
                  (w'.cell? ⟨a, ao + m * 2, none⟩ = some (.string xs[m].name) ∧ w'.cell? ⟨a, ao + m * 2 + 1, none⟩ = some xs[m].sibs.val)) := fun w' h =>
                ⟨(hAw.out.belowAll h).file rfl hlt, (hAw.out.belowAll h).file rfl ‹_›⟩
              refine wp_region_inv 34 (by kernel_rfl) (by kernel_rfl) (fun w' => Below wr.heap.size wr w') (Below.refl _ _).drew ?_
              simp only [List.take_succ_cons, List.take_zero, List.drop_succ_cons, List.drop_zero]
              refine' wpInv_step (by rfl) (fun w' hI => ?_) ?_
              rotate_left
              · have hf := HF.out w' hI
                unfold invAt
                go_simp
                first | exact rfl | exact ⟨rfl, hI⟩
              simp only [Act.put, List.setIfInBounds_toArray, List.set_cons_zero, List.set_cons_succ]
              refine' wpInv_step (by rfl) (fun w' hI => ?_) ?_
              rotate_left
              · have hf := HF.out w' hI
                unfold invAt
                go_simp
                first | exact rfl | exact ⟨rfl, hI⟩
              simp only [Act.put, List.setIfInBounds_toArray, List.set_cons_zero, List.set_cons_succ]
              refine' wpInv_step (by rfl) (fun w' hI => ?_) ?_
              rotate_left
              · have hf := HF.out w' hI
                unfold invAt
                go_simp
                first | exact rfl | exact ⟨rfl, hI⟩
              simp only [Act.put, List.setIfInBounds_toArray, List.set_cons_zero, List.set_cons_succ]
              refine' wpInv_step (by rfl) (fun w' hI => ?_) ?_
              rotate_left
              · have hf := HF.out w' hI
                unfold invAt
                go_simp
                first | exact rfl | exact ⟨rfl, hI⟩
              simp only [Act.put, List.setIfInBounds_toArray, List.set_cons_zero, List.set_cons_succ]
              refine' wpInv_step (by rfl) (fun w' hI => ?_) ?_
              rotate_left
              · have hf := HF.out w' hI
                unfold invAt
                go_simp
                first | exact rfl | exact ⟨rfl, hI⟩
              simp only [Act.put, List.setIfInBounds_toArray, List.set_cons_zero, List.set_cons_succ]
              refine' wpInv_step (by rfl) (fun w' hI => ?_) ?_
              rotate_left
              · have hf := HF.out w' hI
                unfold invAt
                go_simp
                clear hf
                refine (sl3Name_any xs[k].name w' (hAw.out.elem (List.getElem_mem hlt)).2).mono ?_
                rw [HS.out]
                rintro e w'' ⟨rfl, rfl⟩
                exact ⟨rfl, hI⟩
              simp only [Act.put, List.setIfInBounds_toArray, List.set_cons_zero, List.set_cons_succ]
              refine' wpInv_step (by rfl) (fun w' hI => ?_) ?_
              rotate_left
              · have hf := HF.out w' hI
                unfold invAt
                go_simp
                first | exact rfl | exact ⟨rfl, hI⟩
              simp only [Act.put, List.setIfInBounds_toArray, List.set_cons_zero, List.set_cons_succ]
              refine' wpInv_step (by rfl) (fun w' hI => ?_) ?_
              rotate_left
              · have hf := HF.out w' hI
                unfold invAt
                go_simp
                first | exact rfl | exact ⟨rfl, hI⟩
              simp only [Act.put, List.setIfInBounds_toArray, List.set_cons_zero, List.set_cons_succ]
              refine' wpInv_step (by rfl) (fun w' hI => ?_) ?_
              rotate_left
              · have hf := HF.out w' hI
                unfold invAt
                go_simp
                first | exact rfl | exact ⟨rfl, hI⟩
              simp only [Act.put, List.setIfInBounds_toArray, List.set_cons_zero, List.set_cons_succ]
              refine' wpInv_step (by rfl) (fun w' hI => ?_) ?_
              rotate_left
              · have hf := HF.out w' hI
                unfold invAt
                go_simp
                first | exact rfl | exact ⟨rfl, hI⟩
              simp only [Act.put, List.setIfInBounds_toArray, List.set_cons_zero, List.set_cons_succ]
              refine' wpInv_step (by rfl) (fun w' hI => ?_) ?_
              rotate_left
              · have hf := HF.out w' hI
                unfold invAt
                go_simp
                first | exact rfl | exact ⟨rfl, hI⟩
              simp only [Act.put, List.setIfInBounds_toArray, List.set_cons_zero, List.set_cons_succ]
              refine' wpInv_step (by rfl) (fun w' hI => ?_) ?_
              rotate_left
              · have hf := HF.out w' hI
                unfold invAt
                go_simp
                first | exact rfl | exact ⟨rfl, hI⟩
              simp only [Act.put, List.setIfInBounds_toArray, List.set_cons_zero, List.set_cons_succ]
              refine' wpInv_step (by rfl) (fun w' hI => ?_) ?_
              rotate_left
              · have hf := HF.out w' hI
                unfold invAt
                go_simp
                first | exact rfl | exact ⟨rfl, hI⟩
              simp only [Act.put, List.setIfInBounds_toArray, List.set_cons_zero, List.set_cons_succ]
              refine' wpInv_step (by rfl) (fun w' hI => ?_) ?_
              rotate_left
              · have hf := HF.out w' hI
                unfold invAt
                go_simp
                clear hf
                refine (sSibsOk_any xs[k].sibs w' ((hAw.out.belowAll hI).elem (List.getElem_mem hlt)).1).mono ?_
                rw [HT.out]
                rintro e w'' ⟨rfl, hb2⟩
                exact ⟨rfl, hI.trans (hb2.mono hI.size)⟩
              simp only [Act.put, List.setIfInBounds_toArray, List.set_cons_zero, List.set_cons_succ]
              refine' wpInv_step (by rfl) (fun w' hI => ?_) ?_
              rotate_left
              · have hf := HF.out w' hI
                unfold invAt
                go_simp
                first | exact rfl | exact ⟨rfl, hI⟩
              simp only [Act.put, List.setIfInBounds_toArray, List.set_cons_zero, List.set_cons_succ]
              refine' wpInv_step (by rfl) (fun w' hI => ?_) ?_
              rotate_left
              · have hf := HF.out w' hI
                unfold invAt
                go_simp
                first | exact rfl | exact ⟨rfl, hI⟩
              simp only [Act.put, List.setIfInBounds_toArray, List.set_cons_zero, List.set_cons_succ]
              refine' wpInv_step (by rfl) (fun w' hI => ?_) ?_
              rotate_left
              · have hf := HF.out w' hI
                unfold invAt
                go_simp
                first | exact rfl | exact ⟨rfl, hI⟩
              simp only [Act.put, List.setIfInBounds_toArray, List.set_cons_zero, List.set_cons_succ]
              refine' wpInv_step (by rfl) (fun w' hI => ?_) ?_
              rotate_left
              · have hf := HF.out w' hI
                unfold invAt
                go_simp
                first | exact rfl | exact ⟨rfl, hI⟩
              simp only [Act.put, List.setIfInBounds_toArray, List.set_cons_zero, List.set_cons_succ]
              refine' wpInv_step (by rfl) (fun w' hI => ?_) ?_
              rotate_left
              · have hf := HF.out w' hI
                unfold invAt
                go_simp
                first | exact rfl | exact ⟨rfl, hI⟩
              simp only [Act.put, List.setIfInBounds_toArray, List.set_cons_zero, List.set_cons_succ]
              refine' wpInv_step (by rfl) (fun w' hI => ?_) ?_
              rotate_left
              · have hf := HF.out w' hI
                unfold invAt
                go_simp
                first | exact rfl | exact ⟨rfl, hI⟩
              simp only [Act.put, List.setIfInBounds_toArray, List.set_cons_zero, List.set_cons_succ]
              refine' wpInv_step (by rfl) (fun w' hI => ?_) ?_
              rotate_left
              · have hf := HF.out w' hI
                unfold invAt
                go_simp
                first | exact rfl | exact ⟨rfl, hI⟩
              simp only [Act.put, List.setIfInBounds_toArray, List.set_cons_zero, List.set_cons_succ]
              refine' wpInv_step (by rfl) (fun w' hI => ?_) ?_
              rotate_left
              · have hf := HF.out w' hI
                unfold invAt
                go_simp
                first | exact rfl | exact ⟨rfl, hI⟩
              simp only [Act.put, List.setIfInBounds_toArray, List.set_cons_zero, List.set_cons_succ]
              refine' wpInv_step (by rfl) (fun w' hI => ?_) ?_
              rotate_left
              · have hf := HF.out w' hI
                unfold invAt
                go_simp
                first | exact rfl | exact ⟨rfl, hI⟩
              simp only [Act.put, List.setIfInBounds_toArray, List.set_cons_zero, List.set_cons_succ]
              refine' wpInv_step (by rfl) (fun w' hI => ?_) ?_
              rotate_left
              · have hf := HF.out w' hI
                unfold invAt
                go_simp
                first | exact rfl | exact ⟨rfl, hI⟩
              simp only [Act.put, List.setIfInBounds_toArray, List.set_cons_zero, List.set_cons_succ]
              refine' wpInv_step (by rfl) (fun w' hI => ?_) ?_
              rotate_left
              · have hf := HF.out w' hI
                unfold invAt
                go_simp
                first | exact rfl | exact ⟨rfl, hI⟩
              simp only [Act.put, List.setIfInBounds_toArray, List.set_cons_zero, List.set_cons_succ]
              refine' wpInv_step (by rfl) (fun w' hI => ?_) ?_
              rotate_left
              · have hf := HF.out w' hI
                unfold invAt
                go_simp
                first | exact rfl | exact ⟨rfl, hI⟩
              simp only [Act.put, List.setIfInBounds_toArray, List.set_cons_zero, List.set_cons_succ]
              refine' wpInv_step (by rfl) (fun w' hI => ?_) ?_
              rotate_left
              · have hf := HF.out w' hI
                unfold invAt
                go_simp
                first | exact rfl | exact ⟨rfl, hI⟩
              simp only [Act.put, List.setIfInBounds_toArray, List.set_cons_zero, List.set_cons_succ]
              refine' wpInv_step (by rfl) (fun w' hI => ?_) ?_
              rotate_left
              · have hf := HF.out w' hI
                unfold invAt
                go_simp
                first | exact rfl | exact ⟨rfl, hI⟩
              simp only [Act.put, List.setIfInBounds_toArray, List.set_cons_zero, List.set_cons_succ]
              refine' wpInv_step (by rfl) (fun w' hI => ?_) ?_
              rotate_left
              · have hf := HF.out w' hI
                unfold invAt
                go_simp
                first | exact rfl | exact ⟨rfl, hI⟩
              simp only [Act.put, List.setIfInBounds_toArray, List.set_cons_zero, List.set_cons_succ]
              refine' wpInv_step (by rfl) (fun w' hI => ?_) ?_
              rotate_left
              · have hf := HF.out w' hI
                unfold invAt
                go_simp
                first | exact rfl | exact ⟨rfl, hI⟩
              simp only [Act.put, List.setIfInBounds_toArray, List.set_cons_zero, List.set_cons_succ]
              refine' wpInv_step (by rfl) (fun w' hI => ?_) ?_
              rotate_left
              · have hf := HF.out w' hI
                unfold invAt
                go_simp
                first | exact rfl | exact ⟨rfl, hI⟩
              simp only [Act.put, List.setIfInBounds_toArray, List.set_cons_zero, List.set_cons_succ]
              refine' wpInv_step (by rfl) (fun w' hI => ?_) ?_
              rotate_left
              · have hf := HF.out w' hI
                unfold invAt
                go_simp
                first | exact rfl | exact ⟨rfl, hI⟩
              simp only [Act.put, List.setIfInBounds_toArray, List.set_cons_zero, List.set_cons_succ]
              refine' wpInv_step (by rfl) (fun w' hI => ?_) ?_
              rotate_left
              · have hf := HF.out w' hI
                unfold invAt
                go_simp
                first | exact rfl | exact ⟨rfl, hI⟩
              simp only [Act.put, List.setIfInBounds_toArray, List.set_cons_zero, List.set_cons_succ]
              refine' wpInv_step (by rfl) (fun w' hI => ?_) ?_
              rotate_left
              · have hf := HF.out w' hI
                unfold invAt
                go_simp
                first | exact rfl | exact ⟨rfl, hI⟩
              simp only [Act.put, List.setIfInBounds_toArray, List.set_cons_zero, List.set_cons_succ]
              intro w1 hI
              go_wp2_with fail
              go_ret
              refine ⟨ret_bool (treeB_false fun h => ?_).symm, hb.trans (hI.mono hb.size)⟩
              have hkm := HKM.out
              subst hkm
              have := h.asc m (by simpa using hlt)
              rw [List.getElem_map, List.getElem_map] at this
              rw [LFile.er, LFile.er, HC.out] at this
              cases this
    · have hkk : k = xs.length := by omega
      subst hkk
      have HO := Lib.hid (show ∀ j (h : j < xs.length), nameB xs[j].name = true ∧ sibsB (xs[j].sibs.xs.map LSib.er) = true ∧ ∀ m (hm : m + 1 = j), strLt xs[m].name xs[j].name = true from fun j h => HR.out j h h)
      clear HR
      by_cases hl2 : (xs.length : Int) ≤ 6
      · go_wp2_with fail
        go_ret
        refine ⟨ret_bool (treeB_true ⟨fun i h => ?_, fun i h => ?_, fun i h => ?_, ?_⟩).symm, hb⟩
        · rw [List.getElem_map]; exact (HO.out i (by simpa using h)).1
        · rw [List.getElem_map]; exact SibsOK.of (HO.out i (by simpa using h)).2.1
        · rw [List.getElem_map, List.getElem_map]; exact (HO.out (i + 1) (by simpa using h)).2.2 i rfl
        · simp; omega
      · go_wp2_with fail
        go_ret
        exact ⟨ret_bool (treeB_false fun h => (by have := h.few; simp at this; omega)).symm, hb⟩
end Go.Proofs.YtdidkfadiaafiaaGreatDoor
