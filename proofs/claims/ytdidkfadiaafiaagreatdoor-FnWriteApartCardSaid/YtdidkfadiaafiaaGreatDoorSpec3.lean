/- The reference's SibsOk: it answers as the program's. -/
import Derived.Test.YtdidkfadiaafiaaGreatDoorSpec2
namespace Go.Proofs.YtdidkfadiaafiaaGreatDoor
open Go Go.RowKit

theorem supB_self (a : Sib) : supB a a = false := by simp [supB]

/-- What the loop knows of the first k. -/
def SibsTo (xs : List LSib) (k : Nat) : Prop :=
  ∀ j (_ : j < k) (h' : j < xs.length), sibB xs[j].er = true ∧ (∀ m (_ : m + 1 = j), cmpSib xs[m].er xs[j].er < 0) ∧ ∀ q (_ : q < j), supB xs[q].er xs[j].er = false ∧ supB xs[j].er xs[q].er = false

set_option maxRecDepth 100000 in
set_option maxHeartbeats 4000000 in
theorem sSibsOk_any (x : Loc LSib) (w : World) (hx : x.At w) :
    Calls Tryz.prog 58 #[x.val] w fun e w' => e = .returned (.bool (sibsB (x.xs.map LSib.er))) ∧ Below w.heap.size w w' := by
  obtain ⟨xa, xc, xs⟩ := x
  simp only [Loc.val]
  have h1 := hx.lenMax
  simp only at h1
  go_enter Tryz.func58, Tryz.ntmps58
  go_wp2_with fail
  go_loopw [3, 4] (fun i _ wr => ∃ k : Nat, k ≤ xs.length ∧ i = .int .i64 k ∧ SibsTo xs k ∧ Below w.heap.size w wr) (fun i _ _ => xs.length - (intOf i).toNat)
  case atStart => exact ⟨0, Nat.zero_le _, rfl, fun j h => absurd h (by omega), Below.refl _ _⟩
  case round =>
    obtain ⟨k, hk, rfl, hrel, hb⟩ := hrel
    have HR := Lib.hid hrel
    clear hrel
    by_cases hlt : k < xs.length
    · obtain ⟨a, ao, ha⟩ := hx.place hlt
      simp only at ha
      subst ha
      have hAw := Lib.hid (hx.belowAll hb)
      cases hs : sibB xs[k].er with
      | false =>
        have HS := Lib.hid hs
        clear hs
        go_wp2_with fail
        have HF : Hid (∀ w', Below wr.heap.size wr w' → (w'.cell? ⟨a, ao + (k) * 3, none⟩ = some xs[k].vv.val ∧ w'.cell? ⟨a, ao + (k) * 3 + 1, none⟩ = some (.bool xs[k].gone) ∧ w'.cell? ⟨a, ao + (k) * 3 + 2, none⟩ = some (.string xs[k].text)) ∧
            (w'.cell? ⟨a, ao + k * 3, none⟩ = some xs[k].vv.val ∧ w'.cell? ⟨a, ao + k * 3 + 1, none⟩ = some (.bool xs[k].gone) ∧ w'.cell? ⟨a, ao + k * 3 + 2, none⟩ = some (.string xs[k].text))) := fun w' h =>
          ⟨(hAw.out.belowAll h).sib rfl ‹_›, (hAw.out.belowAll h).sib rfl ‹_›⟩
        refine wp_region_inv 23 (by kernel_rfl) (by kernel_rfl) (fun w' => Below wr.heap.size wr w') (Below.refl _ _).drew ?_
        simp only [List.take_succ_cons, List.take_zero, List.drop_succ_cons, List.drop_zero]
        refine' wpInv_step (by rfl) (fun w' hI => ?_) ?_
        rotate_left
        · have hf := HF.out w' hI
          unfold invAt
          go_simp
          first | exact rfl | exact ⟨rfl, hI⟩
        simp only [Act.put, List.setIfInBounds_toArray, List.set_cons_zero, List.set_cons_succ]
        refine' wpInv_step (by rfl) (fun w' hI => ?_) ?_
        rotate_left
        · have hf := HF.out w' hI
          unfold invAt
          go_simp
          first | exact rfl | exact ⟨rfl, hI⟩
        simp only [Act.put, List.setIfInBounds_toArray, List.set_cons_zero, List.set_cons_succ]
        refine' wpInv_step (by rfl) (fun w' hI => ?_) ?_
        rotate_left
        · have hf := HF.out w' hI
          unfold invAt
          go_simp
          first | exact rfl | exact ⟨rfl, hI⟩
        simp only [Act.put, List.setIfInBounds_toArray, List.set_cons_zero, List.set_cons_succ]
        refine' wpInv_step (by rfl) (fun w' hI => ?_) ?_
        rotate_left
        · have hf := HF.out w' hI
          unfold invAt
          go_simp
          first | exact rfl | exact ⟨rfl, hI⟩
        simp only [Act.put, List.setIfInBounds_toArray, List.set_cons_zero, List.set_cons_succ]
        refine' wpInv_step (by rfl) (fun w' hI => ?_) ?_
        rotate_left
        · have hf := HF.out w' hI
          unfold invAt
          go_simp
          clear hf
          refine (sSibOk_any xs[k] w' ((hAw.out.belowAll hI).elem (List.getElem_mem hlt))).mono ?_
          rw [HS.out]
          rintro e w'' ⟨rfl, hb2⟩
          exact ⟨rfl, hI.trans (hb2.mono hI.size)⟩
        simp only [Act.put, List.setIfInBounds_toArray, List.set_cons_zero, List.set_cons_succ]
        refine' wpInv_step (by rfl) (fun w' hI => ?_) ?_
        rotate_left
        · have hf := HF.out w' hI
          unfold invAt
          go_simp
          first | exact rfl | exact ⟨rfl, hI⟩
        simp only [Act.put, List.setIfInBounds_toArray, List.set_cons_zero, List.set_cons_succ]
        refine' wpInv_step (by rfl) (fun w' hI => ?_) ?_
        rotate_left
        · have hf := HF.out w' hI
          unfold invAt
          go_simp
          first | exact rfl | exact ⟨rfl, hI⟩
        simp only [Act.put, List.setIfInBounds_toArray, List.set_cons_zero, List.set_cons_succ]
        refine wpInv_pass (by rfl) ?_
        simp only [Act.put, List.setIfInBounds_toArray, List.set_cons_zero, List.set_cons_succ]
        refine wpInv_pass (by rfl) ?_
        simp only [Act.put, List.setIfInBounds_toArray, List.set_cons_zero, List.set_cons_succ]
        refine wpInv_pass (by rfl) ?_
        simp only [Act.put, List.setIfInBounds_toArray, List.set_cons_zero, List.set_cons_succ]
        refine wpInv_pass (by rfl) ?_
        simp only [Act.put, List.setIfInBounds_toArray, List.set_cons_zero, List.set_cons_succ]
        refine wpInv_pass (by rfl) ?_
        simp only [Act.put, List.setIfInBounds_toArray, List.set_cons_zero, List.set_cons_succ]
        refine wpInv_pass (by rfl) ?_
        simp only [Act.put, List.setIfInBounds_toArray, List.set_cons_zero, List.set_cons_succ]
        refine wpInv_pass (by rfl) ?_
        simp only [Act.put, List.setIfInBounds_toArray, List.set_cons_zero, List.set_cons_succ]
        refine wpInv_pass (by rfl) ?_
        simp only [Act.put, List.setIfInBounds_toArray, List.set_cons_zero, List.set_cons_succ]
        refine wpInv_pass (by rfl) ?_
        simp only [Act.put, List.setIfInBounds_toArray, List.set_cons_zero, List.set_cons_succ]
        refine wpInv_pass (by rfl) ?_
        simp only [Act.put, List.setIfInBounds_toArray, List.set_cons_zero, List.set_cons_succ]
        refine wpInv_pass (by rfl) ?_
        simp only [Act.put, List.setIfInBounds_toArray, List.set_cons_zero, List.set_cons_succ]
        refine wpInv_pass (by rfl) ?_
        simp only [Act.put, List.setIfInBounds_toArray, List.set_cons_zero, List.set_cons_succ]
        refine wpInv_pass (by rfl) ?_
        simp only [Act.put, List.setIfInBounds_toArray, List.set_cons_zero, List.set_cons_succ]
        refine wpInv_pass (by rfl) ?_
        simp only [Act.put, List.setIfInBounds_toArray, List.set_cons_zero, List.set_cons_succ]
        refine wpInv_pass (by rfl) ?_
        simp only [Act.put, List.setIfInBounds_toArray, List.set_cons_zero, List.set_cons_succ]
        refine' wpInv_step (by rfl) (fun w' hI => ?_) ?_
        rotate_left
        · have hf := HF.out w' hI
          unfold invAt
          go_simp
          first | exact rfl | exact ⟨rfl, hI⟩
        simp only [Act.put, List.setIfInBounds_toArray, List.set_cons_zero, List.set_cons_succ]
        intro w1 hI
        go_wp2_with fail
        go_ret
        refine ⟨ret_bool (sibsB_false fun h => ?_).symm, hb.trans (hI.mono hb.size)⟩
        have := h.each k (by simpa using hlt)
        rw [List.getElem_map, HS.out] at this
        cases this
      | true =>
        have HS := Lib.hid hs
        clear hs
        by_cases hk0 : k = 0
        · have HK0 := Lib.hid hk0
          have hkz : decide ((0 : Int) < (k : Int)) = false := decide_eq_false (by omega)
          have hkz2 : decide (0 < k) = false := decide_eq_false (by omega)
          clear hk0
          go_wp2_with fail
          have HF : Hid (∀ w', Below wr.heap.size wr w' → (w'.cell? ⟨a, ao + (k) * 3, none⟩ = some xs[k].vv.val ∧ w'.cell? ⟨a, ao + (k) * 3 + 1, none⟩ = some (.bool xs[k].gone) ∧ w'.cell? ⟨a, ao + (k) * 3 + 2, none⟩ = some (.string xs[k].text)) ∧
              (w'.cell? ⟨a, ao + k * 3, none⟩ = some xs[k].vv.val ∧ w'.cell? ⟨a, ao + k * 3 + 1, none⟩ = some (.bool xs[k].gone) ∧ w'.cell? ⟨a, ao + k * 3 + 2, none⟩ = some (.string xs[k].text))) := fun w' h =>
            ⟨(hAw.out.belowAll h).sib rfl ‹_›, (hAw.out.belowAll h).sib rfl ‹_›⟩
          refine wp_region_inv 23 (by kernel_rfl) (by kernel_rfl) (fun w' => Below wr.heap.size wr w') (Below.refl _ _).drew ?_
          simp only [List.take_succ_cons, List.take_zero, List.drop_succ_cons, List.drop_zero]
          refine' wpInv_step (by rfl) (fun w' hI => ?_) ?_
          rotate_left
          · have hf := HF.out w' hI
            unfold invAt
            go_simp
            first | exact rfl | exact ⟨rfl, hI⟩
          simp only [Act.put, List.setIfInBounds_toArray, List.set_cons_zero, List.set_cons_succ]
          refine' wpInv_step (by rfl) (fun w' hI => ?_) ?_
          rotate_left
          · have hf := HF.out w' hI
            unfold invAt
            go_simp
            first | exact rfl | exact ⟨rfl, hI⟩
          simp only [Act.put, List.setIfInBounds_toArray, List.set_cons_zero, List.set_cons_succ]
          refine' wpInv_step (by rfl) (fun w' hI => ?_) ?_
          rotate_left
          · have hf := HF.out w' hI
            unfold invAt
            go_simp
            first | exact rfl | exact ⟨rfl, hI⟩
          simp only [Act.put, List.setIfInBounds_toArray, List.set_cons_zero, List.set_cons_succ]
          refine' wpInv_step (by rfl) (fun w' hI => ?_) ?_
          rotate_left
          · have hf := HF.out w' hI
            unfold invAt
            go_simp
            first | exact rfl | exact ⟨rfl, hI⟩
          simp only [Act.put, List.setIfInBounds_toArray, List.set_cons_zero, List.set_cons_succ]
          refine' wpInv_step (by rfl) (fun w' hI => ?_) ?_
          rotate_left
          · have hf := HF.out w' hI
            unfold invAt
            go_simp
            clear hf
            refine (sSibOk_any xs[k] w' ((hAw.out.belowAll hI).elem (List.getElem_mem hlt))).mono ?_
            rw [HS.out]
            rintro e w'' ⟨rfl, hb2⟩
            exact ⟨rfl, hI.trans (hb2.mono hI.size)⟩
          simp only [Act.put, List.setIfInBounds_toArray, List.set_cons_zero, List.set_cons_succ]
          refine' wpInv_step (by rfl) (fun w' hI => ?_) ?_
          rotate_left
          · have hf := HF.out w' hI
            unfold invAt
            go_simp
            first | exact rfl | exact ⟨rfl, hI⟩
          simp only [Act.put, List.setIfInBounds_toArray, List.set_cons_zero, List.set_cons_succ]
          refine' wpInv_step (by rfl) (fun w' hI => ?_) ?_
          rotate_left
          · have hf := HF.out w' hI
            unfold invAt
            go_simp
            first | exact rfl | exact ⟨rfl, hI⟩
          simp only [Act.put, List.setIfInBounds_toArray, List.set_cons_zero, List.set_cons_succ]
          refine' wpInv_step (by rfl) (fun w' hI => ?_) ?_
          rotate_left
          · have hf := HF.out w' hI
            unfold invAt
            go_simp
            first | exact rfl | exact ⟨rfl, hI⟩
          simp only [Act.put, List.setIfInBounds_toArray, List.set_cons_zero, List.set_cons_succ]
          refine' wpInv_step (by rfl) (fun w' hI => ?_) ?_
          rotate_left
          · have hf := HF.out w' hI
            unfold invAt
            go_simp
            first | exact rfl | exact ⟨rfl, hI⟩
          simp only [Act.put, List.setIfInBounds_toArray, List.set_cons_zero, List.set_cons_succ]
          refine' wpInv_step (by rfl) (fun w' hI => ?_) ?_
          rotate_left
          · have hf := HF.out w' hI
            unfold invAt
            go_simp
            first | exact rfl | exact ⟨rfl, hI⟩
          simp only [Act.put, List.setIfInBounds_toArray, List.set_cons_zero, List.set_cons_succ]
          refine wpInv_pass (by rfl) ?_
          simp only [Act.put, List.setIfInBounds_toArray, List.set_cons_zero, List.set_cons_succ]
          refine wpInv_pass (by rfl) ?_
          simp only [Act.put, List.setIfInBounds_toArray, List.set_cons_zero, List.set_cons_succ]
          refine wpInv_pass (by rfl) ?_
          simp only [Act.put, List.setIfInBounds_toArray, List.set_cons_zero, List.set_cons_succ]
          refine wpInv_pass (by rfl) ?_
          simp only [Act.put, List.setIfInBounds_toArray, List.set_cons_zero, List.set_cons_succ]
          refine wpInv_pass (by rfl) ?_
          simp only [Act.put, List.setIfInBounds_toArray, List.set_cons_zero, List.set_cons_succ]
          refine wpInv_pass (by rfl) ?_
          simp only [Act.put, List.setIfInBounds_toArray, List.set_cons_zero, List.set_cons_succ]
          refine wpInv_pass (by rfl) ?_
          simp only [Act.put, List.setIfInBounds_toArray, List.set_cons_zero, List.set_cons_succ]
          refine wpInv_pass (by rfl) ?_
          simp only [Act.put, List.setIfInBounds_toArray, List.set_cons_zero, List.set_cons_succ]
          refine wpInv_pass (by rfl) ?_
          simp only [Act.put, List.setIfInBounds_toArray, List.set_cons_zero, List.set_cons_succ]
          refine wpInv_pass (by rfl) ?_
          simp only [Act.put, List.setIfInBounds_toArray, List.set_cons_zero, List.set_cons_succ]
          refine wpInv_pass (by rfl) ?_
          simp only [Act.put, List.setIfInBounds_toArray, List.set_cons_zero, List.set_cons_succ]
          refine' wpInv_step (by rfl) (fun w' hI => ?_) ?_
          rotate_left
          · have hf := HF.out w' hI
            unfold invAt
            go_simp
            first | exact rfl | exact ⟨rfl, hI⟩
          simp only [Act.put, List.setIfInBounds_toArray, List.set_cons_zero, List.set_cons_succ]
          refine' wpInv_step (by rfl) (fun w' hI => ?_) ?_
          rotate_left
          · have hf := HF.out w' hI
            unfold invAt
            go_simp
            first | exact rfl | exact ⟨rfl, hI⟩
          simp only [Act.put, List.setIfInBounds_toArray, List.set_cons_zero, List.set_cons_succ]
          intro w1 hI
          have HO := Lib.hid (show ∀ m (_ : m + 1 = k), cmpSib xs[m].er xs[k].er < 0 from fun m hm => by have := HK0.out; omega)
          go_wp2_with fail
          obtain ⟨wo, hwo⟩ : ∃ wo : World, wo = wr := ⟨_, rfl⟩
          subst hwo
          go_loopw [4] (fun i wq => ∃ q : Nat, q ≤ k ∧ i = .int .i64 q ∧ (∀ p (_ : p < q) (_ : p < xs.length), supB xs[p].er xs[k].er = false ∧ supB xs[k].er xs[p].er = false) ∧ Below w.heap.size w wq) (fun i _ => k - (intOf i).toNat)
          case atStart => exact ⟨0, Nat.zero_le _, rfl, fun p h => absurd h (by omega), hb.trans (hI.mono hb.size)⟩
          case round =>
            obtain ⟨q, hq, rfl, hrel, hbq⟩ := hrel
            have HQ := Lib.hid hrel
            clear hrel
            by_cases hqk : q < k
            · have hqx : q < xs.length := by omega
              have hqi : (q : Int) < (k : Int) := by omega
              have hAq := Lib.hid (hx.belowAll hbq)
              have HLK := Lib.hid (show xs[k].vv.xs.length = 3 from sibB_len HS.out)
              have HLQ := Lib.hid (show xs[q].vv.xs.length = 3 from sibB_len (HR.out q hqk hqx).1)
              cases hu1 : supB xs[q].er xs[k].er with
              | true =>
                have HU1 := Lib.hid hu1
                clear hu1
                go_wp2_with fail
                have HF : Hid (∀ w', Below wr.heap.size wr w' → (w'.cell? ⟨a, ao + k * 3, none⟩ = some xs[k].vv.val ∧ w'.cell? ⟨a, ao + k * 3 + 1, none⟩ = some (.bool xs[k].gone) ∧ w'.cell? ⟨a, ao + k * 3 + 2, none⟩ = some (.string xs[k].text)) ∧
                    (w'.cell? ⟨a, ao + q * 3, none⟩ = some xs[q].vv.val ∧ w'.cell? ⟨a, ao + q * 3 + 1, none⟩ = some (.bool xs[q].gone) ∧ w'.cell? ⟨a, ao + q * 3 + 2, none⟩ = some (.string xs[q].text))) := fun w' h =>
                  ⟨(hAq.out.belowAll h).sib rfl hlt, (hAq.out.belowAll h).sib rfl hqx⟩
                refine wp_region_inv 20 (by kernel_rfl) (by kernel_rfl) (fun w' => Below wr.heap.size wr w') (Below.refl _ _).drew ?_
                simp only [List.take_succ_cons, List.take_zero, List.drop_succ_cons, List.drop_zero]
                refine' wpInv_step (by rfl) (fun w' hI => ?_) ?_
                rotate_left
                · have hf := HF.out w' hI
                  unfold invAt
                  go_simp
                  first | exact rfl | exact ⟨rfl, hI⟩
                simp only [Act.put, List.setIfInBounds_toArray, List.set_cons_zero, List.set_cons_succ]
                refine' wpInv_step (by rfl) (fun w' hI => ?_) ?_
                rotate_left
                · have hf := HF.out w' hI
                  unfold invAt
                  go_simp
                  first | exact rfl | exact ⟨rfl, hI⟩
                simp only [Act.put, List.setIfInBounds_toArray, List.set_cons_zero, List.set_cons_succ]
                refine' wpInv_step (by rfl) (fun w' hI => ?_) ?_
                rotate_left
                · have hf := HF.out w' hI
                  unfold invAt
                  go_simp
                  first | exact rfl | exact ⟨rfl, hI⟩
                simp only [Act.put, List.setIfInBounds_toArray, List.set_cons_zero, List.set_cons_succ]
                refine' wpInv_step (by rfl) (fun w' hI => ?_) ?_
                rotate_left
                · have hf := HF.out w' hI
                  unfold invAt
                  go_simp
                  first | exact rfl | exact ⟨rfl, hI⟩
                simp only [Act.put, List.setIfInBounds_toArray, List.set_cons_zero, List.set_cons_succ]
                refine' wpInv_step (by rfl) (fun w' hI => ?_) ?_
                rotate_left
                · have hf := HF.out w' hI
                  unfold invAt
                  go_simp
                  first | exact rfl | exact ⟨rfl, hI⟩
                simp only [Act.put, List.setIfInBounds_toArray, List.set_cons_zero, List.set_cons_succ]
                refine' wpInv_step (by rfl) (fun w' hI => ?_) ?_
                rotate_left
                · have hf := HF.out w' hI
                  unfold invAt
                  go_simp
                  first | exact rfl | exact ⟨rfl, hI⟩
                simp only [Act.put, List.setIfInBounds_toArray, List.set_cons_zero, List.set_cons_succ]
                refine' wpInv_step (by rfl) (fun w' hI => ?_) ?_
                rotate_left
                · have hf := HF.out w' hI
                  unfold invAt
                  go_simp
                  first | exact rfl | exact ⟨rfl, hI⟩
                simp only [Act.put, List.setIfInBounds_toArray, List.set_cons_zero, List.set_cons_succ]
                refine' wpInv_step (by rfl) (fun w' hI => ?_) ?_
                rotate_left
                · have hf := HF.out w' hI
                  unfold invAt
                  go_simp
                  first | exact rfl | exact ⟨rfl, hI⟩
                simp only [Act.put, List.setIfInBounds_toArray, List.set_cons_zero, List.set_cons_succ]
                refine' wpInv_step (by rfl) (fun w' hI => ?_) ?_
                rotate_left
                · have hf := HF.out w' hI
                  unfold invAt
                  go_simp
                  clear hf
                  refine (sl2Known_any xs[q] xs[k] w' ((hAq.out.belowAll hI).elem (List.getElem_mem hqx)) ((hAq.out.belowAll hI).elem (List.getElem_mem hlt)) HLQ.out HLK.out).mono ?_
                  rw [HU1.out]
                  rintro e w'' ⟨rfl, hb2⟩
                  exact ⟨rfl, hI.trans (hb2.mono hI.size)⟩
                simp only [Act.put, List.setIfInBounds_toArray, List.set_cons_zero, List.set_cons_succ]
                refine' wpInv_step (by rfl) (fun w' hI => ?_) ?_
                rotate_left
                · have hf := HF.out w' hI
                  unfold invAt
                  go_simp
                  first | exact rfl | exact ⟨rfl, hI⟩
                simp only [Act.put, List.setIfInBounds_toArray, List.set_cons_zero, List.set_cons_succ]
                refine wpInv_pass (by rfl) ?_
                simp only [Act.put, List.setIfInBounds_toArray, List.set_cons_zero, List.set_cons_succ]
                refine wpInv_pass (by rfl) ?_
                simp only [Act.put, List.setIfInBounds_toArray, List.set_cons_zero, List.set_cons_succ]
                refine wpInv_pass (by rfl) ?_
                simp only [Act.put, List.setIfInBounds_toArray, List.set_cons_zero, List.set_cons_succ]
                refine wpInv_pass (by rfl) ?_
                simp only [Act.put, List.setIfInBounds_toArray, List.set_cons_zero, List.set_cons_succ]
                refine wpInv_pass (by rfl) ?_
                simp only [Act.put, List.setIfInBounds_toArray, List.set_cons_zero, List.set_cons_succ]
                refine wpInv_pass (by rfl) ?_
                simp only [Act.put, List.setIfInBounds_toArray, List.set_cons_zero, List.set_cons_succ]
                refine wpInv_pass (by rfl) ?_
                simp only [Act.put, List.setIfInBounds_toArray, List.set_cons_zero, List.set_cons_succ]
                refine wpInv_pass (by rfl) ?_
                simp only [Act.put, List.setIfInBounds_toArray, List.set_cons_zero, List.set_cons_succ]
                refine wpInv_pass (by rfl) ?_
                simp only [Act.put, List.setIfInBounds_toArray, List.set_cons_zero, List.set_cons_succ]
                refine' wpInv_step (by rfl) (fun w' hI => ?_) ?_
                rotate_left
                · have hf := HF.out w' hI
                  unfold invAt
                  go_simp
                  first | exact rfl | exact ⟨rfl, hI⟩
                simp only [Act.put, List.setIfInBounds_toArray, List.set_cons_zero, List.set_cons_succ]
                intro w2 hI2
                go_wp2_with fail
                go_ret
                refine ⟨ret_bool (sibsB_false fun h => ?_).symm, hbq.trans (hI2.mono hbq.size)⟩
                have := h.free _ (List.mem_map.2 ⟨_, List.getElem_mem hqx, rfl⟩) _ (List.mem_map.2 ⟨_, List.getElem_mem hlt, rfl⟩)
                rw [HU1.out] at this
                cases this
              | false =>
                have HU1 := Lib.hid hu1
                clear hu1
                cases hu2 : supB xs[k].er xs[q].er with
                | true =>
                  have HU2 := Lib.hid hu2
                  clear hu2
                  go_wp2_with fail
                  have HF : Hid (∀ w', Below wr.heap.size wr w' → (w'.cell? ⟨a, ao + k * 3, none⟩ = some xs[k].vv.val ∧ w'.cell? ⟨a, ao + k * 3 + 1, none⟩ = some (.bool xs[k].gone) ∧ w'.cell? ⟨a, ao + k * 3 + 2, none⟩ = some (.string xs[k].text)) ∧
                      (w'.cell? ⟨a, ao + q * 3, none⟩ = some xs[q].vv.val ∧ w'.cell? ⟨a, ao + q * 3 + 1, none⟩ = some (.bool xs[q].gone) ∧ w'.cell? ⟨a, ao + q * 3 + 2, none⟩ = some (.string xs[q].text))) := fun w' h =>
                    ⟨(hAq.out.belowAll h).sib rfl hlt, (hAq.out.belowAll h).sib rfl hqx⟩
                  refine wp_region_inv 20 (by kernel_rfl) (by kernel_rfl) (fun w' => Below wr.heap.size wr w') (Below.refl _ _).drew ?_
                  simp only [List.take_succ_cons, List.take_zero, List.drop_succ_cons, List.drop_zero]
                  refine' wpInv_step (by rfl) (fun w' hI => ?_) ?_
                  rotate_left
                  · have hf := HF.out w' hI
                    unfold invAt
                    go_simp
                    first | exact rfl | exact ⟨rfl, hI⟩
                  simp only [Act.put, List.setIfInBounds_toArray, List.set_cons_zero, List.set_cons_succ]
                  refine' wpInv_step (by rfl) (fun w' hI => ?_) ?_
                  rotate_left
                  · have hf := HF.out w' hI
                    unfold invAt
                    go_simp
                    first | exact rfl | exact ⟨rfl, hI⟩
                  simp only [Act.put, List.setIfInBounds_toArray, List.set_cons_zero, List.set_cons_succ]
                  refine' wpInv_step (by rfl) (fun w' hI => ?_) ?_
                  rotate_left
                  · have hf := HF.out w' hI
                    unfold invAt
                    go_simp
                    first | exact rfl | exact ⟨rfl, hI⟩
                  simp only [Act.put, List.setIfInBounds_toArray, List.set_cons_zero, List.set_cons_succ]
                  refine' wpInv_step (by rfl) (fun w' hI => ?_) ?_
                  rotate_left
                  · have hf := HF.out w' hI
                    unfold invAt
                    go_simp
                    first | exact rfl | exact ⟨rfl, hI⟩
                  simp only [Act.put, List.setIfInBounds_toArray, List.set_cons_zero, List.set_cons_succ]
                  refine' wpInv_step (by rfl) (fun w' hI => ?_) ?_
                  rotate_left
                  · have hf := HF.out w' hI
                    unfold invAt
                    go_simp
                    first | exact rfl | exact ⟨rfl, hI⟩
                  simp only [Act.put, List.setIfInBounds_toArray, List.set_cons_zero, List.set_cons_succ]
                  refine' wpInv_step (by rfl) (fun w' hI => ?_) ?_
                  rotate_left
                  · have hf := HF.out w' hI
                    unfold invAt
                    go_simp
                    first | exact rfl | exact ⟨rfl, hI⟩
                  simp only [Act.put, List.setIfInBounds_toArray, List.set_cons_zero, List.set_cons_succ]
                  refine' wpInv_step (by rfl) (fun w' hI => ?_) ?_
                  rotate_left
                  · have hf := HF.out w' hI
                    unfold invAt
                    go_simp
                    first | exact rfl | exact ⟨rfl, hI⟩
                  simp only [Act.put, List.setIfInBounds_toArray, List.set_cons_zero, List.set_cons_succ]
                  refine' wpInv_step (by rfl) (fun w' hI => ?_) ?_
                  rotate_left
                  · have hf := HF.out w' hI
                    unfold invAt
                    go_simp
                    first | exact rfl | exact ⟨rfl, hI⟩
                  simp only [Act.put, List.setIfInBounds_toArray, List.set_cons_zero, List.set_cons_succ]
                  refine' wpInv_step (by rfl) (fun w' hI => ?_) ?_
                  rotate_left
                  · have hf := HF.out w' hI
                    unfold invAt
                    go_simp
                    clear hf
                    refine (sl2Known_any xs[q] xs[k] w' ((hAq.out.belowAll hI).elem (List.getElem_mem hqx)) ((hAq.out.belowAll hI).elem (List.getElem_mem hlt)) HLQ.out HLK.out).mono ?_
                    rw [HU1.out]
                    rintro e w'' ⟨rfl, hb2⟩
                    exact ⟨rfl, hI.trans (hb2.mono hI.size)⟩
                  simp only [Act.put, List.setIfInBounds_toArray, List.set_cons_zero, List.set_cons_succ]
                  refine' wpInv_step (by rfl) (fun w' hI => ?_) ?_
                  rotate_left
                  · have hf := HF.out w' hI
                    unfold invAt
                    go_simp
                    first | exact rfl | exact ⟨rfl, hI⟩
                  simp only [Act.put, List.setIfInBounds_toArray, List.set_cons_zero, List.set_cons_succ]
                  refine' wpInv_step (by rfl) (fun w' hI => ?_) ?_
                  rotate_left
                  · have hf := HF.out w' hI
                    unfold invAt
                    go_simp
                    first | exact rfl | exact ⟨rfl, hI⟩
                  simp only [Act.put, List.setIfInBounds_toArray, List.set_cons_zero, List.set_cons_succ]
                  refine' wpInv_step (by rfl) (fun w' hI => ?_) ?_
                  rotate_left
                  · have hf := HF.out w' hI
                    unfold invAt
                    go_simp
                    first | exact rfl | exact ⟨rfl, hI⟩
                  simp only [Act.put, List.setIfInBounds_toArray, List.set_cons_zero, List.set_cons_succ]
                  refine' wpInv_step (by rfl) (fun w' hI => ?_) ?_
                  rotate_left
                  · have hf := HF.out w' hI
                    unfold invAt
                    go_simp
                    first | exact rfl | exact ⟨rfl, hI⟩
                  simp only [Act.put, List.setIfInBounds_toArray, List.set_cons_zero, List.set_cons_succ]
                  refine' wpInv_step (by rfl) (fun w' hI => ?_) ?_
                  rotate_left
                  · have hf := HF.out w' hI
                    unfold invAt
                    go_simp
                    first | exact rfl | exact ⟨rfl, hI⟩
                  simp only [Act.put, List.setIfInBounds_toArray, List.set_cons_zero, List.set_cons_succ]
                  refine' wpInv_step (by rfl) (fun w' hI => ?_) ?_
                  rotate_left
                  · have hf := HF.out w' hI
                    unfold invAt
                    go_simp
                    first | exact rfl | exact ⟨rfl, hI⟩
                  simp only [Act.put, List.setIfInBounds_toArray, List.set_cons_zero, List.set_cons_succ]
                  refine' wpInv_step (by rfl) (fun w' hI => ?_) ?_
                  rotate_left
                  · have hf := HF.out w' hI
                    unfold invAt
                    go_simp
                    first | exact rfl | exact ⟨rfl, hI⟩
                  simp only [Act.put, List.setIfInBounds_toArray, List.set_cons_zero, List.set_cons_succ]
                  refine' wpInv_step (by rfl) (fun w' hI => ?_) ?_
                  rotate_left
                  · have hf := HF.out w' hI
                    unfold invAt
                    go_simp
                    first | exact rfl | exact ⟨rfl, hI⟩
                  simp only [Act.put, List.setIfInBounds_toArray, List.set_cons_zero, List.set_cons_succ]
                  refine' wpInv_step (by rfl) (fun w' hI => ?_) ?_
                  rotate_left
                  · have hf := HF.out w' hI
                    unfold invAt
                    go_simp
                    first | exact rfl | exact ⟨rfl, hI⟩
                  simp only [Act.put, List.setIfInBounds_toArray, List.set_cons_zero, List.set_cons_succ]
                  refine' wpInv_step (by rfl) (fun w' hI => ?_) ?_
                  rotate_left
                  · have hf := HF.out w' hI
                    unfold invAt
                    go_simp
                    clear hf
                    refine (sl2Known_any xs[k] xs[q] w' ((hAq.out.belowAll hI).elem (List.getElem_mem hlt)) ((hAq.out.belowAll hI).elem (List.getElem_mem hqx)) HLK.out HLQ.out).mono ?_
                    rw [HU2.out]
                    rintro e w'' ⟨rfl, hb2⟩
                    exact ⟨rfl, hI.trans (hb2.mono hI.size)⟩
                  simp only [Act.put, List.setIfInBounds_toArray, List.set_cons_zero, List.set_cons_succ]
                  refine' wpInv_step (by rfl) (fun w' hI => ?_) ?_
                  rotate_left
                  · have hf := HF.out w' hI
                    unfold invAt
                    go_simp
                    first | exact rfl | exact ⟨rfl, hI⟩
                  simp only [Act.put, List.setIfInBounds_toArray, List.set_cons_zero, List.set_cons_succ]
                  intro w2 hI2
                  go_wp2_with fail
                  go_ret
                  refine ⟨ret_bool (sibsB_false fun h => ?_).symm, hbq.trans (hI2.mono hbq.size)⟩
                  have := h.free _ (List.mem_map.2 ⟨_, List.getElem_mem hlt, rfl⟩) _ (List.mem_map.2 ⟨_, List.getElem_mem hqx, rfl⟩)
                  rw [HU2.out] at this
                  cases this
                | false =>
                  have HU2 := Lib.hid hu2
                  clear hu2
                  go_wp2_with fail
                  have HF : Hid (∀ w', Below wr.heap.size wr w' → (w'.cell? ⟨a, ao + k * 3, none⟩ = some xs[k].vv.val ∧ w'.cell? ⟨a, ao + k * 3 + 1, none⟩ = some (.bool xs[k].gone) ∧ w'.cell? ⟨a, ao + k * 3 + 2, none⟩ = some (.string xs[k].text)) ∧
                      (w'.cell? ⟨a, ao + q * 3, none⟩ = some xs[q].vv.val ∧ w'.cell? ⟨a, ao + q * 3 + 1, none⟩ = some (.bool xs[q].gone) ∧ w'.cell? ⟨a, ao + q * 3 + 2, none⟩ = some (.string xs[q].text))) := fun w' h =>
                    ⟨(hAq.out.belowAll h).sib rfl hlt, (hAq.out.belowAll h).sib rfl hqx⟩
                  refine wp_region_inv 20 (by kernel_rfl) (by kernel_rfl) (fun w' => Below wr.heap.size wr w') (Below.refl _ _).drew ?_
                  simp only [List.take_succ_cons, List.take_zero, List.drop_succ_cons, List.drop_zero]
                  refine' wpInv_step (by rfl) (fun w' hI => ?_) ?_
                  rotate_left
                  · have hf := HF.out w' hI
                    unfold invAt
                    go_simp
                    first | exact rfl | exact ⟨rfl, hI⟩
                  simp only [Act.put, List.setIfInBounds_toArray, List.set_cons_zero, List.set_cons_succ]
                  refine' wpInv_step (by rfl) (fun w' hI => ?_) ?_
                  rotate_left
                  · have hf := HF.out w' hI
                    unfold invAt
                    go_simp
                    first | exact rfl | exact ⟨rfl, hI⟩
                  simp only [Act.put, List.setIfInBounds_toArray, List.set_cons_zero, List.set_cons_succ]
                  refine' wpInv_step (by rfl) (fun w' hI => ?_) ?_
                  rotate_left
                  · have hf := HF.out w' hI
                    unfold invAt
                    go_simp
                    first | exact rfl | exact ⟨rfl, hI⟩
                  simp only [Act.put, List.setIfInBounds_toArray, List.set_cons_zero, List.set_cons_succ]
                  refine' wpInv_step (by rfl) (fun w' hI => ?_) ?_
                  rotate_left
                  · have hf := HF.out w' hI
                    unfold invAt
                    go_simp
                    first | exact rfl | exact ⟨rfl, hI⟩
                  simp only [Act.put, List.setIfInBounds_toArray, List.set_cons_zero, List.set_cons_succ]
                  refine' wpInv_step (by rfl) (fun w' hI => ?_) ?_
                  rotate_left
                  · have hf := HF.out w' hI
                    unfold invAt
                    go_simp
                    first | exact rfl | exact ⟨rfl, hI⟩
                  simp only [Act.put, List.setIfInBounds_toArray, List.set_cons_zero, List.set_cons_succ]
                  refine' wpInv_step (by rfl) (fun w' hI => ?_) ?_
                  rotate_left
                  · have hf := HF.out w' hI
                    unfold invAt
                    go_simp
                    first | exact rfl | exact ⟨rfl, hI⟩
                  simp only [Act.put, List.setIfInBounds_toArray, List.set_cons_zero, List.set_cons_succ]
                  refine' wpInv_step (by rfl) (fun w' hI => ?_) ?_
                  rotate_left
                  · have hf := HF.out w' hI
                    unfold invAt
                    go_simp
                    first | exact rfl | exact ⟨rfl, hI⟩
                  simp only [Act.put, List.setIfInBounds_toArray, List.set_cons_zero, List.set_cons_succ]
                  refine' wpInv_step (by rfl) (fun w' hI => ?_) ?_
                  rotate_left
                  · have hf := HF.out w' hI
                    unfold invAt
                    go_simp
                    first | exact rfl | exact ⟨rfl, hI⟩
                  simp only [Act.put, List.setIfInBounds_toArray, List.set_cons_zero, List.set_cons_succ]
                  refine' wpInv_step (by rfl) (fun w' hI => ?_) ?_
                  rotate_left
                  · have hf := HF.out w' hI
                    unfold invAt
                    go_simp
                    clear hf
                    refine (sl2Known_any xs[q] xs[k] w' ((hAq.out.belowAll hI).elem (List.getElem_mem hqx)) ((hAq.out.belowAll hI).elem (List.getElem_mem hlt)) HLQ.out HLK.out).mono ?_
                    rw [HU1.out]
                    rintro e w'' ⟨rfl, hb2⟩
                    exact ⟨rfl, hI.trans (hb2.mono hI.size)⟩
                  simp only [Act.put, List.setIfInBounds_toArray, List.set_cons_zero, List.set_cons_succ]
                  refine' wpInv_step (by rfl) (fun w' hI => ?_) ?_
                  rotate_left
                  · have hf := HF.out w' hI
                    unfold invAt
                    go_simp
                    first | exact rfl | exact ⟨rfl, hI⟩
                  simp only [Act.put, List.setIfInBounds_toArray, List.set_cons_zero, List.set_cons_succ]
                  refine' wpInv_step (by rfl) (fun w' hI => ?_) ?_
                  rotate_left
                  · have hf := HF.out w' hI
                    unfold invAt
                    go_simp
                    first | exact rfl | exact ⟨rfl, hI⟩
                  simp only [Act.put, List.setIfInBounds_toArray, List.set_cons_zero, List.set_cons_succ]
                  refine' wpInv_step (by rfl) (fun w' hI => ?_) ?_
                  rotate_left
                  · have hf := HF.out w' hI
                    unfold invAt
                    go_simp
                    first | exact rfl | exact ⟨rfl, hI⟩
                  simp only [Act.put, List.setIfInBounds_toArray, List.set_cons_zero, List.set_cons_succ]
                  refine' wpInv_step (by rfl) (fun w' hI => ?_) ?_
                  rotate_left
                  · have hf := HF.out w' hI
                    unfold invAt
                    go_simp
                    first | exact rfl | exact ⟨rfl, hI⟩
                  simp only [Act.put, List.setIfInBounds_toArray, List.set_cons_zero, List.set_cons_succ]
                  refine' wpInv_step (by rfl) (fun w' hI => ?_) ?_
                  rotate_left
                  · have hf := HF.out w' hI
                    unfold invAt
                    go_simp
                    first | exact rfl | exact ⟨rfl, hI⟩
                  simp only [Act.put, List.setIfInBounds_toArray, List.set_cons_zero, List.set_cons_succ]
                  refine' wpInv_step (by rfl) (fun w' hI => ?_) ?_
                  rotate_left
                  · have hf := HF.out w' hI
                    unfold invAt
                    go_simp
                    first | exact rfl | exact ⟨rfl, hI⟩
                  simp only [Act.put, List.setIfInBounds_toArray, List.set_cons_zero, List.set_cons_succ]
                  refine' wpInv_step (by rfl) (fun w' hI => ?_) ?_
                  rotate_left
                  · have hf := HF.out w' hI
                    unfold invAt
                    go_simp
                    first | exact rfl | exact ⟨rfl, hI⟩
                  simp only [Act.put, List.setIfInBounds_toArray, List.set_cons_zero, List.set_cons_succ]
                  refine' wpInv_step (by rfl) (fun w' hI => ?_) ?_
                  rotate_left
                  · have hf := HF.out w' hI
                    unfold invAt
                    go_simp
                    first | exact rfl | exact ⟨rfl, hI⟩
                  simp only [Act.put, List.setIfInBounds_toArray, List.set_cons_zero, List.set_cons_succ]
                  refine' wpInv_step (by rfl) (fun w' hI => ?_) ?_
                  rotate_left
                  · have hf := HF.out w' hI
                    unfold invAt
                    go_simp
                    first | exact rfl | exact ⟨rfl, hI⟩
                  simp only [Act.put, List.setIfInBounds_toArray, List.set_cons_zero, List.set_cons_succ]
                  refine' wpInv_step (by rfl) (fun w' hI => ?_) ?_
                  rotate_left
                  · have hf := HF.out w' hI
                    unfold invAt
                    go_simp
                    clear hf
                    refine (sl2Known_any xs[k] xs[q] w' ((hAq.out.belowAll hI).elem (List.getElem_mem hlt)) ((hAq.out.belowAll hI).elem (List.getElem_mem hqx)) HLK.out HLQ.out).mono ?_
                    rw [HU2.out]
                    rintro e w'' ⟨rfl, hb2⟩
                    exact ⟨rfl, hI.trans (hb2.mono hI.size)⟩
                  simp only [Act.put, List.setIfInBounds_toArray, List.set_cons_zero, List.set_cons_succ]
                  refine' wpInv_step (by rfl) (fun w' hI => ?_) ?_
                  rotate_left
                  · have hf := HF.out w' hI
                    unfold invAt
                    go_simp
                    first | exact rfl | exact ⟨rfl, hI⟩
                  simp only [Act.put, List.setIfInBounds_toArray, List.set_cons_zero, List.set_cons_succ]
                  intro w2 hI2
                  go_wp2_with fail
                  go_roundw
                  case rel =>
                    refine ⟨q + 1, by omega, by go_num, fun p hp hp' => ?_, hbq.trans (hI2.mono hbq.size)⟩
                    by_cases hpq : p < q
                    · exact HQ.out p hpq hp'
                    · obtain rfl : p = q := by omega
                      exact ⟨HU1.out, HU2.out⟩
                  case measure => simp [intOf]; omega
            · have hqi : ¬ (q : Int) < (k : Int) := by omega
              go_wp2_with fail
              go_roundw
              case rel =>
                refine ⟨k + 1, by omega, by go_num, fun j hj hj' => ?_, hbq⟩
                by_cases hjk : j < k
                · exact HR.out j hjk hj'
                · obtain rfl : j = k := by omega
                  exact ⟨HS.out, HO.out, fun p hp => HQ.out p (by omega) (by omega)⟩
              case measure => simp [intOf]; omega
        · obtain ⟨m, hkm⟩ : ∃ m, k = m + 1 := ⟨k - 1, by omega⟩
          have hm : m < xs.length := by omega
          have hkz : decide ((0 : Int) < (k : Int)) = true := decide_eq_true (by omega)
          have hkz2 : decide (0 < k) = true := decide_eq_true (by omega)
          have hwm : IntKind.i64.wrap ((k : Int) - 1) = (m : Int) := by rw [IntWalk.i64_in _ (by omega)]; omega
          have HKM := Lib.hid hkm
          clear hkm hk0
          have HLK := Lib.hid (show xs[k].vv.xs.length = 3 from sibB_len HS.out)
          have HLM := Lib.hid (show xs[m].vv.xs.length = 3 from sibB_len (HR.out m (by have := HKM.out; omega) hm).1)
          generalize hc : cmpSib xs[m].er xs[k].er = c
          have HC := Lib.hid hc
          clear hc
          by_cases hlt0 : c < 0
          · skip
            go_wp2_with fail
            have HF : Hid (∀ w', Below wr.heap.size wr w' → (w'.cell? ⟨a, ao + (k) * 3, none⟩ = some xs[k].vv.val ∧ w'.cell? ⟨a, ao + (k) * 3 + 1, none⟩ = some (.bool xs[k].gone) ∧ w'.cell? ⟨a, ao + (k) * 3 + 2, none⟩ = some (.string xs[k].text)) ∧
                (w'.cell? ⟨a, ao + m * 3, none⟩ = some xs[m].vv.val ∧ w'.cell? ⟨a, ao + m * 3 + 1, none⟩ = some (.bool xs[m].gone) ∧ w'.cell? ⟨a, ao + m * 3 + 2, none⟩ = some (.string xs[m].text))) := fun w' h =>
              ⟨(hAw.out.belowAll h).sib rfl ‹_›, (hAw.out.belowAll h).sib rfl ‹_›⟩
            refine wp_region_inv 23 (by kernel_rfl) (by kernel_rfl) (fun w' => Below wr.heap.size wr w') (Below.refl _ _).drew ?_
            simp only [List.take_succ_cons, List.take_zero, List.drop_succ_cons, List.drop_zero]
            refine' wpInv_step (by rfl) (fun w' hI => ?_) ?_
            rotate_left
            · have hf := HF.out w' hI
              unfold invAt
              go_simp
              first | exact rfl | exact ⟨rfl, hI⟩
            simp only [Act.put, List.setIfInBounds_toArray, List.set_cons_zero, List.set_cons_succ]
            refine' wpInv_step (by rfl) (fun w' hI => ?_) ?_
            rotate_left
            · have hf := HF.out w' hI
              unfold invAt
              go_simp
              first | exact rfl | exact ⟨rfl, hI⟩
            simp only [Act.put, List.setIfInBounds_toArray, List.set_cons_zero, List.set_cons_succ]
            refine' wpInv_step (by rfl) (fun w' hI => ?_) ?_
            rotate_left
            · have hf := HF.out w' hI
              unfold invAt
              go_simp
              first | exact rfl | exact ⟨rfl, hI⟩
            simp only [Act.put, List.setIfInBounds_toArray, List.set_cons_zero, List.set_cons_succ]
            refine' wpInv_step (by rfl) (fun w' hI => ?_) ?_
            rotate_left
            · have hf := HF.out w' hI
              unfold invAt
              go_simp
              first | exact rfl | exact ⟨rfl, hI⟩
            simp only [Act.put, List.setIfInBounds_toArray, List.set_cons_zero, List.set_cons_succ]
            refine' wpInv_step (by rfl) (fun w' hI => ?_) ?_
            rotate_left
            · have hf := HF.out w' hI
              unfold invAt
              go_simp
              clear hf
              refine (sSibOk_any xs[k] w' ((hAw.out.belowAll hI).elem (List.getElem_mem hlt))).mono ?_
              rw [HS.out]
              rintro e w'' ⟨rfl, hb2⟩
              exact ⟨rfl, hI.trans (hb2.mono hI.size)⟩
            simp only [Act.put, List.setIfInBounds_toArray, List.set_cons_zero, List.set_cons_succ]
            refine' wpInv_step (by rfl) (fun w' hI => ?_) ?_
            rotate_left
            · have hf := HF.out w' hI
              unfold invAt
              go_simp
              first | exact rfl | exact ⟨rfl, hI⟩
            simp only [Act.put, List.setIfInBounds_toArray, List.set_cons_zero, List.set_cons_succ]
            refine' wpInv_step (by rfl) (fun w' hI => ?_) ?_
            rotate_left
            · have hf := HF.out w' hI
              unfold invAt
              go_simp
              first | exact rfl | exact ⟨rfl, hI⟩
            simp only [Act.put, List.setIfInBounds_toArray, List.set_cons_zero, List.set_cons_succ]
            refine' wpInv_step (by rfl) (fun w' hI => ?_) ?_
            rotate_left
            · have hf := HF.out w' hI
              unfold invAt
              go_simp
              first | exact rfl | exact ⟨rfl, hI⟩
            simp only [Act.put, List.setIfInBounds_toArray, List.set_cons_zero, List.set_cons_succ]
            refine' wpInv_step (by rfl) (fun w' hI => ?_) ?_
            rotate_left
            · have hf := HF.out w' hI
              unfold invAt
              go_simp
              first | exact rfl | exact ⟨rfl, hI⟩
            simp only [Act.put, List.setIfInBounds_toArray, List.set_cons_zero, List.set_cons_succ]
            refine' wpInv_step (by rfl) (fun w' hI => ?_) ?_
            rotate_left
            · have hf := HF.out w' hI
              unfold invAt
              go_simp
              first | exact rfl | exact ⟨rfl, hI⟩
            simp only [Act.put, List.setIfInBounds_toArray, List.set_cons_zero, List.set_cons_succ]
            refine' wpInv_step (by rfl) (fun w' hI => ?_) ?_
            rotate_left
            · have hf := HF.out w' hI
              unfold invAt
              go_simp
              first | exact rfl | exact ⟨rfl, hI⟩
            simp only [Act.put, List.setIfInBounds_toArray, List.set_cons_zero, List.set_cons_succ]
            refine' wpInv_step (by rfl) (fun w' hI => ?_) ?_
            rotate_left
            · have hf := HF.out w' hI
              unfold invAt
              go_simp
              first | exact rfl | exact ⟨rfl, hI⟩
            simp only [Act.put, List.setIfInBounds_toArray, List.set_cons_zero, List.set_cons_succ]
            refine' wpInv_step (by rfl) (fun w' hI => ?_) ?_
            rotate_left
            · have hf := HF.out w' hI
              unfold invAt
              go_simp
              first | exact rfl | exact ⟨rfl, hI⟩
            simp only [Act.put, List.setIfInBounds_toArray, List.set_cons_zero, List.set_cons_succ]
            refine' wpInv_step (by rfl) (fun w' hI => ?_) ?_
            rotate_left
            · have hf := HF.out w' hI
              unfold invAt
              go_simp
              first | exact rfl | exact ⟨rfl, hI⟩
            simp only [Act.put, List.setIfInBounds_toArray, List.set_cons_zero, List.set_cons_succ]
            refine' wpInv_step (by rfl) (fun w' hI => ?_) ?_
            rotate_left
            · have hf := HF.out w' hI
              unfold invAt
              go_simp
              first | exact rfl | exact ⟨rfl, hI⟩
            simp only [Act.put, List.setIfInBounds_toArray, List.set_cons_zero, List.set_cons_succ]
            refine' wpInv_step (by rfl) (fun w' hI => ?_) ?_
            rotate_left
            · have hf := HF.out w' hI
              unfold invAt
              go_simp
              first | exact rfl | exact ⟨rfl, hI⟩
            simp only [Act.put, List.setIfInBounds_toArray, List.set_cons_zero, List.set_cons_succ]
            refine' wpInv_step (by rfl) (fun w' hI => ?_) ?_
            rotate_left
            · have hf := HF.out w' hI
              unfold invAt
              go_simp
              first | exact rfl | exact ⟨rfl, hI⟩
            simp only [Act.put, List.setIfInBounds_toArray, List.set_cons_zero, List.set_cons_succ]
            refine' wpInv_step (by rfl) (fun w' hI => ?_) ?_
            rotate_left
            · have hf := HF.out w' hI
              unfold invAt
              go_simp
              first | exact rfl | exact ⟨rfl, hI⟩
            simp only [Act.put, List.setIfInBounds_toArray, List.set_cons_zero, List.set_cons_succ]
            refine' wpInv_step (by rfl) (fun w' hI => ?_) ?_
            rotate_left
            · have hf := HF.out w' hI
              unfold invAt
              go_simp
              first | exact rfl | exact ⟨rfl, hI⟩
            simp only [Act.put, List.setIfInBounds_toArray, List.set_cons_zero, List.set_cons_succ]
            refine' wpInv_step (by rfl) (fun w' hI => ?_) ?_
            rotate_left
            · have hf := HF.out w' hI
              unfold invAt
              go_simp
              clear hf
              refine (sl2Cmp_any xs[m] xs[k] w' ((hAw.out.belowAll hI).elem (List.getElem_mem hm)) ((hAw.out.belowAll hI).elem (List.getElem_mem hlt)) HLM.out HLK.out).mono ?_
              rw [HC.out]
              rintro e w'' ⟨rfl, hb2⟩
              exact ⟨rfl, hI.trans (hb2.mono hI.size)⟩
            simp only [Act.put, List.setIfInBounds_toArray, List.set_cons_zero, List.set_cons_succ]
            refine' wpInv_step (by rfl) (fun w' hI => ?_) ?_
            rotate_left
            · have hf := HF.out w' hI
              unfold invAt
              go_simp
              first | exact rfl | exact ⟨rfl, hI⟩
            simp only [Act.put, List.setIfInBounds_toArray, List.set_cons_zero, List.set_cons_succ]
            refine' wpInv_step (by rfl) (fun w' hI => ?_) ?_
            rotate_left
            · have hf := HF.out w' hI
              unfold invAt
              go_simp
              first | exact rfl | exact ⟨rfl, hI⟩
            simp only [Act.put, List.setIfInBounds_toArray, List.set_cons_zero, List.set_cons_succ]
            refine' wpInv_step (by rfl) (fun w' hI => ?_) ?_
            rotate_left
            · have hf := HF.out w' hI
              unfold invAt
              go_simp
              first | exact rfl | exact ⟨rfl, hI⟩
            simp only [Act.put, List.setIfInBounds_toArray, List.set_cons_zero, List.set_cons_succ]
            intro w1 hI
            have HO := Lib.hid (show ∀ p (_ : p + 1 = k), cmpSib xs[p].er xs[k].er < 0 from fun p hp => by
              have := HKM.out
              obtain rfl : p = m := by omega
              rw [HC.out]; exact hlt0)
            go_wp2_with fail
            obtain ⟨wo, hwo⟩ : ∃ wo : World, wo = wr := ⟨_, rfl⟩
            subst hwo
            go_loopw [4] (fun i wq => ∃ q : Nat, q ≤ k ∧ i = .int .i64 q ∧ (∀ p (_ : p < q) (_ : p < xs.length), supB xs[p].er xs[k].er = false ∧ supB xs[k].er xs[p].er = false) ∧ Below w.heap.size w wq) (fun i _ => k - (intOf i).toNat)
            case atStart => exact ⟨0, Nat.zero_le _, rfl, fun p h => absurd h (by omega), hb.trans (hI.mono hb.size)⟩
            case round =>
              obtain ⟨q, hq, rfl, hrel, hbq⟩ := hrel
              have HQ := Lib.hid hrel
              clear hrel
              by_cases hqk : q < k
              · have hqx : q < xs.length := by omega
                have hqi : (q : Int) < (k : Int) := by omega
                have hAq := Lib.hid (hx.belowAll hbq)
                have HLK := Lib.hid (show xs[k].vv.xs.length = 3 from sibB_len HS.out)
                have HLQ := Lib.hid (show xs[q].vv.xs.length = 3 from sibB_len (HR.out q hqk hqx).1)
                cases hu1 : supB xs[q].er xs[k].er with
                | true =>
                  have HU1 := Lib.hid hu1
                  clear hu1
                  go_wp2_with fail
                  have HF : Hid (∀ w', Below wr.heap.size wr w' → (w'.cell? ⟨a, ao + k * 3, none⟩ = some xs[k].vv.val ∧ w'.cell? ⟨a, ao + k * 3 + 1, none⟩ = some (.bool xs[k].gone) ∧ w'.cell? ⟨a, ao + k * 3 + 2, none⟩ = some (.string xs[k].text)) ∧
                      (w'.cell? ⟨a, ao + q * 3, none⟩ = some xs[q].vv.val ∧ w'.cell? ⟨a, ao + q * 3 + 1, none⟩ = some (.bool xs[q].gone) ∧ w'.cell? ⟨a, ao + q * 3 + 2, none⟩ = some (.string xs[q].text))) := fun w' h =>
                    ⟨(hAq.out.belowAll h).sib rfl hlt, (hAq.out.belowAll h).sib rfl hqx⟩
                  refine wp_region_inv 20 (by kernel_rfl) (by kernel_rfl) (fun w' => Below wr.heap.size wr w') (Below.refl _ _).drew ?_
                  simp only [List.take_succ_cons, List.take_zero, List.drop_succ_cons, List.drop_zero]
                  refine' wpInv_step (by rfl) (fun w' hI => ?_) ?_
                  rotate_left
                  · have hf := HF.out w' hI
                    unfold invAt
                    go_simp
                    first | exact rfl | exact ⟨rfl, hI⟩
                  simp only [Act.put, List.setIfInBounds_toArray, List.set_cons_zero, List.set_cons_succ]
                  refine' wpInv_step (by rfl) (fun w' hI => ?_) ?_
                  rotate_left
                  · have hf := HF.out w' hI
                    unfold invAt
                    go_simp
                    first | exact rfl | exact ⟨rfl, hI⟩
                  simp only [Act.put, List.setIfInBounds_toArray, List.set_cons_zero, List.set_cons_succ]
                  refine' wpInv_step (by rfl) (fun w' hI => ?_) ?_
                  rotate_left
                  · have hf := HF.out w' hI
                    unfold invAt
                    go_simp
                    first | exact rfl | exact ⟨rfl, hI⟩
                  simp only [Act.put, List.setIfInBounds_toArray, List.set_cons_zero, List.set_cons_succ]
                  refine' wpInv_step (by rfl) (fun w' hI => ?_) ?_
                  rotate_left
                  · have hf := HF.out w' hI
                    unfold invAt
                    go_simp
                    first | exact rfl | exact ⟨rfl, hI⟩
                  simp only [Act.put, List.setIfInBounds_toArray, List.set_cons_zero, List.set_cons_succ]
                  refine' wpInv_step (by rfl) (fun w' hI => ?_) ?_
                  rotate_left
                  · have hf := HF.out w' hI
                    unfold invAt
                    go_simp
                    first | exact rfl | exact ⟨rfl, hI⟩
                  simp only [Act.put, List.setIfInBounds_toArray, List.set_cons_zero, List.set_cons_succ]
                  refine' wpInv_step (by rfl) (fun w' hI => ?_) ?_
                  rotate_left
                  · have hf := HF.out w' hI
                    unfold invAt
                    go_simp
                    first | exact rfl | exact ⟨rfl, hI⟩
                  simp only [Act.put, List.setIfInBounds_toArray, List.set_cons_zero, List.set_cons_succ]
                  refine' wpInv_step (by rfl) (fun w' hI => ?_) ?_
                  rotate_left
                  · have hf := HF.out w' hI
                    unfold invAt
                    go_simp
                    first | exact rfl | exact ⟨rfl, hI⟩
                  simp only [Act.put, List.setIfInBounds_toArray, List.set_cons_zero, List.set_cons_succ]
                  refine' wpInv_step (by rfl) (fun w' hI => ?_) ?_
                  rotate_left
                  · have hf := HF.out w' hI
                    unfold invAt
                    go_simp
                    first | exact rfl | exact ⟨rfl, hI⟩
                  simp only [Act.put, List.setIfInBounds_toArray, List.set_cons_zero, List.set_cons_succ]
                  refine' wpInv_step (by rfl) (fun w' hI => ?_) ?_
                  rotate_left
                  · have hf := HF.out w' hI
                    unfold invAt
                    go_simp
                    clear hf
                    refine (sl2Known_any xs[q] xs[k] w' ((hAq.out.belowAll hI).elem (List.getElem_mem hqx)) ((hAq.out.belowAll hI).elem (List.getElem_mem hlt)) HLQ.out HLK.out).mono ?_
                    rw [HU1.out]
                    rintro e w'' ⟨rfl, hb2⟩
                    exact ⟨rfl, hI.trans (hb2.mono hI.size)⟩
                  simp only [Act.put, List.setIfInBounds_toArray, List.set_cons_zero, List.set_cons_succ]
                  refine' wpInv_step (by rfl) (fun w' hI => ?_) ?_
                  rotate_left
                  · have hf := HF.out w' hI
                    unfold invAt
                    go_simp
                    first | exact rfl | exact ⟨rfl, hI⟩
                  simp only [Act.put, List.setIfInBounds_toArray, List.set_cons_zero, List.set_cons_succ]
                  refine wpInv_pass (by rfl) ?_
                  simp only [Act.put, List.setIfInBounds_toArray, List.set_cons_zero, List.set_cons_succ]
                  refine wpInv_pass (by rfl) ?_
                  simp only [Act.put, List.setIfInBounds_toArray, List.set_cons_zero, List.set_cons_succ]
                  refine wpInv_pass (by rfl) ?_
                  simp only [Act.put, List.setIfInBounds_toArray, List.set_cons_zero, List.set_cons_succ]
                  refine wpInv_pass (by rfl) ?_
                  simp only [Act.put, List.setIfInBounds_toArray, List.set_cons_zero, List.set_cons_succ]
                  refine wpInv_pass (by rfl) ?_
                  simp only [Act.put, List.setIfInBounds_toArray, List.set_cons_zero, List.set_cons_succ]
                  refine wpInv_pass (by rfl) ?_
                  simp only [Act.put, List.setIfInBounds_toArray, List.set_cons_zero, List.set_cons_succ]
                  refine wpInv_pass (by rfl) ?_
                  simp only [Act.put, List.setIfInBounds_toArray, List.set_cons_zero, List.set_cons_succ]
                  refine wpInv_pass (by rfl) ?_
                  simp only [Act.put, List.setIfInBounds_toArray, List.set_cons_zero, List.set_cons_succ]
                  refine wpInv_pass (by rfl) ?_
                  simp only [Act.put, List.setIfInBounds_toArray, List.set_cons_zero, List.set_cons_succ]
                  refine' wpInv_step (by rfl) (fun w' hI => ?_) ?_
                  rotate_left
                  · have hf := HF.out w' hI
                    unfold invAt
                    go_simp
                    first | exact rfl | exact ⟨rfl, hI⟩
                  simp only [Act.put, List.setIfInBounds_toArray, List.set_cons_zero, List.set_cons_succ]
                  intro w2 hI2
                  go_wp2_with fail
                  go_ret
                  refine ⟨ret_bool (sibsB_false fun h => ?_).symm, hbq.trans (hI2.mono hbq.size)⟩
                  have := h.free _ (List.mem_map.2 ⟨_, List.getElem_mem hqx, rfl⟩) _ (List.mem_map.2 ⟨_, List.getElem_mem hlt, rfl⟩)
                  rw [HU1.out] at this
                  cases this
                | false =>
                  have HU1 := Lib.hid hu1
                  clear hu1
                  cases hu2 : supB xs[k].er xs[q].er with
                  | true =>
                    have HU2 := Lib.hid hu2
                    clear hu2
                    go_wp2_with fail
                    have HF : Hid (∀ w', Below wr.heap.size wr w' → (w'.cell? ⟨a, ao + k * 3, none⟩ = some xs[k].vv.val ∧ w'.cell? ⟨a, ao + k * 3 + 1, none⟩ = some (.bool xs[k].gone) ∧ w'.cell? ⟨a, ao + k * 3 + 2, none⟩ = some (.string xs[k].text)) ∧
                        (w'.cell? ⟨a, ao + q * 3, none⟩ = some xs[q].vv.val ∧ w'.cell? ⟨a, ao + q * 3 + 1, none⟩ = some (.bool xs[q].gone) ∧ w'.cell? ⟨a, ao + q * 3 + 2, none⟩ = some (.string xs[q].text))) := fun w' h =>
                      ⟨(hAq.out.belowAll h).sib rfl hlt, (hAq.out.belowAll h).sib rfl hqx⟩
                    refine wp_region_inv 20 (by kernel_rfl) (by kernel_rfl) (fun w' => Below wr.heap.size wr w') (Below.refl _ _).drew ?_
                    simp only [List.take_succ_cons, List.take_zero, List.drop_succ_cons, List.drop_zero]
                    refine' wpInv_step (by rfl) (fun w' hI => ?_) ?_
                    rotate_left
                    · have hf := HF.out w' hI
                      unfold invAt
                      go_simp
                      first | exact rfl | exact ⟨rfl, hI⟩
                    simp only [Act.put, List.setIfInBounds_toArray, List.set_cons_zero, List.set_cons_succ]
                    refine' wpInv_step (by rfl) (fun w' hI => ?_) ?_
                    rotate_left
                    · have hf := HF.out w' hI
                      unfold invAt
                      go_simp
                      first | exact rfl | exact ⟨rfl, hI⟩
                    simp only [Act.put, List.setIfInBounds_toArray, List.set_cons_zero, List.set_cons_succ]
                    refine' wpInv_step (by rfl) (fun w' hI => ?_) ?_
                    rotate_left
                    · have hf := HF.out w' hI
                      unfold invAt
                      go_simp
                      first | exact rfl | exact ⟨rfl, hI⟩
                    simp only [Act.put, List.setIfInBounds_toArray, List.set_cons_zero, List.set_cons_succ]
                    refine' wpInv_step (by rfl) (fun w' hI => ?_) ?_
                    rotate_left
                    · have hf := HF.out w' hI
                      unfold invAt
                      go_simp
                      first | exact rfl | exact ⟨rfl, hI⟩
                    simp only [Act.put, List.setIfInBounds_toArray, List.set_cons_zero, List.set_cons_succ]
                    refine' wpInv_step (by rfl) (fun w' hI => ?_) ?_
                    rotate_left
                    · have hf := HF.out w' hI
                      unfold invAt
                      go_simp
                      first | exact rfl | exact ⟨rfl, hI⟩
                    simp only [Act.put, List.setIfInBounds_toArray, List.set_cons_zero, List.set_cons_succ]
                    refine' wpInv_step (by rfl) (fun w' hI => ?_) ?_
                    rotate_left
                    · have hf := HF.out w' hI
                      unfold invAt
                      go_simp
                      first | exact rfl | exact ⟨rfl, hI⟩
                    simp only [Act.put, List.setIfInBounds_toArray, List.set_cons_zero, List.set_cons_succ]
                    refine' wpInv_step (by rfl) (fun w' hI => ?_) ?_
                    rotate_left
                    · have hf := HF.out w' hI
                      unfold invAt
                      go_simp
                      first | exact rfl | exact ⟨rfl, hI⟩
                    simp only [Act.put, List.setIfInBounds_toArray, List.set_cons_zero, List.set_cons_succ]
                    refine' wpInv_step (by rfl) (fun w' hI => ?_) ?_
                    rotate_left
                    · have hf := HF.out w' hI
                      unfold invAt
                      go_simp
                      first | exact rfl | exact ⟨rfl, hI⟩
                    simp only [Act.put, List.setIfInBounds_toArray, List.set_cons_zero, List.set_cons_succ]
                    refine' wpInv_step (by rfl) (fun w' hI => ?_) ?_
                    rotate_left
                    · have hf := HF.out w' hI
                      unfold invAt
                      go_simp
                      clear hf
                      refine (sl2Known_any xs[q] xs[k] w' ((hAq.out.belowAll hI).elem (List.getElem_mem hqx)) ((hAq.out.belowAll hI).elem (List.getElem_mem hlt)) HLQ.out HLK.out).mono ?_
                      rw [HU1.out]
                      rintro e w'' ⟨rfl, hb2⟩
                      exact ⟨rfl, hI.trans (hb2.mono hI.size)⟩
                    simp only [Act.put, List.setIfInBounds_toArray, List.set_cons_zero, List.set_cons_succ]
                    refine' wpInv_step (by rfl) (fun w' hI => ?_) ?_
                    rotate_left
                    · have hf := HF.out w' hI
                      unfold invAt
                      go_simp
                      first | exact rfl | exact ⟨rfl, hI⟩
                    simp only [Act.put, List.setIfInBounds_toArray, List.set_cons_zero, List.set_cons_succ]
                    refine' wpInv_step (by rfl) (fun w' hI => ?_) ?_
                    rotate_left
                    · have hf := HF.out w' hI
                      unfold invAt
                      go_simp
                      first | exact rfl | exact ⟨rfl, hI⟩
                    simp only [Act.put, List.setIfInBounds_toArray, List.set_cons_zero, List.set_cons_succ]
                    refine' wpInv_step (by rfl) (fun w' hI => ?_) ?_
                    rotate_left
                    · have hf := HF.out w' hI
                      unfold invAt
                      go_simp
                      first | exact rfl | exact ⟨rfl, hI⟩
                    simp only [Act.put, List.setIfInBounds_toArray, List.set_cons_zero, List.set_cons_succ]
                    refine' wpInv_step (by rfl) (fun w' hI => ?_) ?_
                    rotate_left
                    · have hf := HF.out w' hI
                      unfold invAt
                      go_simp
                      first | exact rfl | exact ⟨rfl, hI⟩
                    simp only [Act.put, List.setIfInBounds_toArray, List.set_cons_zero, List.set_cons_succ]
                    refine' wpInv_step (by rfl) (fun w' hI => ?_) ?_
                    rotate_left
                    · have hf := HF.out w' hI
                      unfold invAt
                      go_simp
                      first | exact rfl | exact ⟨rfl, hI⟩
                    simp only [Act.put, List.setIfInBounds_toArray, List.set_cons_zero, List.set_cons_succ]
                    refine' wpInv_step (by rfl) (fun w' hI => ?_) ?_
                    rotate_left
                    · have hf := HF.out w' hI
                      unfold invAt
                      go_simp
                      first | exact rfl | exact ⟨rfl, hI⟩
                    simp only [Act.put, List.setIfInBounds_toArray, List.set_cons_zero, List.set_cons_succ]
                    refine' wpInv_step (by rfl) (fun w' hI => ?_) ?_
                    rotate_left
                    · have hf := HF.out w' hI
                      unfold invAt
                      go_simp
                      first | exact rfl | exact ⟨rfl, hI⟩
                    simp only [Act.put, List.setIfInBounds_toArray, List.set_cons_zero, List.set_cons_succ]
                    refine' wpInv_step (by rfl) (fun w' hI => ?_) ?_
                    rotate_left
                    · have hf := HF.out w' hI
                      unfold invAt
                      go_simp
                      first | exact rfl | exact ⟨rfl, hI⟩
                    simp only [Act.put, List.setIfInBounds_toArray, List.set_cons_zero, List.set_cons_succ]
                    refine' wpInv_step (by rfl) (fun w' hI => ?_) ?_
                    rotate_left
                    · have hf := HF.out w' hI
                      unfold invAt
                      go_simp
                      first | exact rfl | exact ⟨rfl, hI⟩
                    simp only [Act.put, List.setIfInBounds_toArray, List.set_cons_zero, List.set_cons_succ]
                    refine' wpInv_step (by rfl) (fun w' hI => ?_) ?_
                    rotate_left
                    · have hf := HF.out w' hI
                      unfold invAt
                      go_simp
                      clear hf
                      refine (sl2Known_any xs[k] xs[q] w' ((hAq.out.belowAll hI).elem (List.getElem_mem hlt)) ((hAq.out.belowAll hI).elem (List.getElem_mem hqx)) HLK.out HLQ.out).mono ?_
                      rw [HU2.out]
                      rintro e w'' ⟨rfl, hb2⟩
                      exact ⟨rfl, hI.trans (hb2.mono hI.size)⟩
                    simp only [Act.put, List.setIfInBounds_toArray, List.set_cons_zero, List.set_cons_succ]
                    refine' wpInv_step (by rfl) (fun w' hI => ?_) ?_
                    rotate_left
                    · have hf := HF.out w' hI
                      unfold invAt
                      go_simp
                      first | exact rfl | exact ⟨rfl, hI⟩
                    simp only [Act.put, List.setIfInBounds_toArray, List.set_cons_zero, List.set_cons_succ]
                    intro w2 hI2
                    go_wp2_with fail
                    go_ret
                    refine ⟨ret_bool (sibsB_false fun h => ?_).symm, hbq.trans (hI2.mono hbq.size)⟩
                    have := h.free _ (List.mem_map.2 ⟨_, List.getElem_mem hlt, rfl⟩) _ (List.mem_map.2 ⟨_, List.getElem_mem hqx, rfl⟩)
                    rw [HU2.out] at this
                    cases this
                  | false =>
                    have HU2 := Lib.hid hu2
                    clear hu2
                    go_wp2_with fail
                    have HF : Hid (∀ w', Below wr.heap.size wr w' → (w'.cell? ⟨a, ao + k * 3, none⟩ = some xs[k].vv.val ∧ w'.cell? ⟨a, ao + k * 3 + 1, none⟩ = some (.bool xs[k].gone) ∧ w'.cell? ⟨a, ao + k * 3 + 2, none⟩ = some (.string xs[k].text)) ∧
                        (w'.cell? ⟨a, ao + q * 3, none⟩ = some xs[q].vv.val ∧ w'.cell? ⟨a, ao + q * 3 + 1, none⟩ = some (.bool xs[q].gone) ∧ w'.cell? ⟨a, ao + q * 3 + 2, none⟩ = some (.string xs[q].text))) := fun w' h =>
                      ⟨(hAq.out.belowAll h).sib rfl hlt, (hAq.out.belowAll h).sib rfl hqx⟩
                    refine wp_region_inv 20 (by kernel_rfl) (by kernel_rfl) (fun w' => Below wr.heap.size wr w') (Below.refl _ _).drew ?_
                    simp only [List.take_succ_cons, List.take_zero, List.drop_succ_cons, List.drop_zero]
                    refine' wpInv_step (by rfl) (fun w' hI => ?_) ?_
                    rotate_left
                    · have hf := HF.out w' hI
                      unfold invAt
                      go_simp
                      first | exact rfl | exact ⟨rfl, hI⟩
                    simp only [Act.put, List.setIfInBounds_toArray, List.set_cons_zero, List.set_cons_succ]
                    refine' wpInv_step (by rfl) (fun w' hI => ?_) ?_
                    rotate_left
                    · have hf := HF.out w' hI
                      unfold invAt
                      go_simp
                      first | exact rfl | exact ⟨rfl, hI⟩
                    simp only [Act.put, List.setIfInBounds_toArray, List.set_cons_zero, List.set_cons_succ]
                    refine' wpInv_step (by rfl) (fun w' hI => ?_) ?_
                    rotate_left
                    · have hf := HF.out w' hI
                      unfold invAt
                      go_simp
                      first | exact rfl | exact ⟨rfl, hI⟩
                    simp only [Act.put, List.setIfInBounds_toArray, List.set_cons_zero, List.set_cons_succ]
                    refine' wpInv_step (by rfl) (fun w' hI => ?_) ?_
                    rotate_left
                    · have hf := HF.out w' hI
                      unfold invAt
                      go_simp
                      first | exact rfl | exact ⟨rfl, hI⟩
                    simp only [Act.put, List.setIfInBounds_toArray, List.set_cons_zero, List.set_cons_succ]
                    refine' wpInv_step (by rfl) (fun w' hI => ?_) ?_
                    rotate_left
                    · have hf := HF.out w' hI
                      unfold invAt
                      go_simp
                      first | exact rfl | exact ⟨rfl, hI⟩
                    simp only [Act.put, List.setIfInBounds_toArray, List.set_cons_zero, List.set_cons_succ]
                    refine' wpInv_step (by rfl) (fun w' hI => ?_) ?_
                    rotate_left
                    · have hf := HF.out w' hI
                      unfold invAt
                      go_simp
                      first | exact rfl | exact ⟨rfl, hI⟩
                    simp only [Act.put, List.setIfInBounds_toArray, List.set_cons_zero, List.set_cons_succ]
                    refine' wpInv_step (by rfl) (fun w' hI => ?_) ?_
                    rotate_left
                    · have hf := HF.out w' hI
                      unfold invAt
                      go_simp
                      first | exact rfl | exact ⟨rfl, hI⟩
                    simp only [Act.put, List.setIfInBounds_toArray, List.set_cons_zero, List.set_cons_succ]
                    refine' wpInv_step (by rfl) (fun w' hI => ?_) ?_
                    rotate_left
                    · have hf := HF.out w' hI
                      unfold invAt
                      go_simp
                      first | exact rfl | exact ⟨rfl, hI⟩
                    simp only [Act.put, List.setIfInBounds_toArray, List.set_cons_zero, List.set_cons_succ]
                    refine' wpInv_step (by rfl) (fun w' hI => ?_) ?_
                    rotate_left
                    · have hf := HF.out w' hI
                      unfold invAt
                      go_simp
                      clear hf
                      refine (sl2Known_any xs[q] xs[k] w' ((hAq.out.belowAll hI).elem (List.getElem_mem hqx)) ((hAq.out.belowAll hI).elem (List.getElem_mem hlt)) HLQ.out HLK.out).mono ?_
                      rw [HU1.out]
                      rintro e w'' ⟨rfl, hb2⟩
                      exact ⟨rfl, hI.trans (hb2.mono hI.size)⟩
                    simp only [Act.put, List.setIfInBounds_toArray, List.set_cons_zero, List.set_cons_succ]
                    refine' wpInv_step (by rfl) (fun w' hI => ?_) ?_
                    rotate_left
                    · have hf := HF.out w' hI
                      unfold invAt
                      go_simp
                      first | exact rfl | exact ⟨rfl, hI⟩
                    simp only [Act.put, List.setIfInBounds_toArray, List.set_cons_zero, List.set_cons_succ]
                    refine' wpInv_step (by rfl) (fun w' hI => ?_) ?_
                    rotate_left
                    · have hf := HF.out w' hI
                      unfold invAt
                      go_simp
                      first | exact rfl | exact ⟨rfl, hI⟩
                    simp only [Act.put, List.setIfInBounds_toArray, List.set_cons_zero, List.set_cons_succ]
                    refine' wpInv_step (by rfl) (fun w' hI => ?_) ?_
                    rotate_left
                    · have hf := HF.out w' hI
                      unfold invAt
                      go_simp
                      first | exact rfl | exact ⟨rfl, hI⟩
                    simp only [Act.put, List.setIfInBounds_toArray, List.set_cons_zero, List.set_cons_succ]
                    refine' wpInv_step (by rfl) (fun w' hI => ?_) ?_
                    rotate_left
                    · have hf := HF.out w' hI
                      unfold invAt
                      go_simp
                      first | exact rfl | exact ⟨rfl, hI⟩
                    simp only [Act.put, List.setIfInBounds_toArray, List.set_cons_zero, List.set_cons_succ]
                    refine' wpInv_step (by rfl) (fun w' hI => ?_) ?_
                    rotate_left
                    · have hf := HF.out w' hI
                      unfold invAt
                      go_simp
                      first | exact rfl | exact ⟨rfl, hI⟩
                    simp only [Act.put, List.setIfInBounds_toArray, List.set_cons_zero, List.set_cons_succ]
                    refine' wpInv_step (by rfl) (fun w' hI => ?_) ?_
                    rotate_left
                    · have hf := HF.out w' hI
                      unfold invAt
                      go_simp
                      first | exact rfl | exact ⟨rfl, hI⟩
                    simp only [Act.put, List.setIfInBounds_toArray, List.set_cons_zero, List.set_cons_succ]
                    refine' wpInv_step (by rfl) (fun w' hI => ?_) ?_
                    rotate_left
                    · have hf := HF.out w' hI
                      unfold invAt
                      go_simp
                      first | exact rfl | exact ⟨rfl, hI⟩
                    simp only [Act.put, List.setIfInBounds_toArray, List.set_cons_zero, List.set_cons_succ]
                    refine' wpInv_step (by rfl) (fun w' hI => ?_) ?_
                    rotate_left
                    · have hf := HF.out w' hI
                      unfold invAt
                      go_simp
                      first | exact rfl | exact ⟨rfl, hI⟩
                    simp only [Act.put, List.setIfInBounds_toArray, List.set_cons_zero, List.set_cons_succ]
                    refine' wpInv_step (by rfl) (fun w' hI => ?_) ?_
                    rotate_left
                    · have hf := HF.out w' hI
                      unfold invAt
                      go_simp
                      first | exact rfl | exact ⟨rfl, hI⟩
                    simp only [Act.put, List.setIfInBounds_toArray, List.set_cons_zero, List.set_cons_succ]
                    refine' wpInv_step (by rfl) (fun w' hI => ?_) ?_
                    rotate_left
                    · have hf := HF.out w' hI
                      unfold invAt
                      go_simp
                      clear hf
                      refine (sl2Known_any xs[k] xs[q] w' ((hAq.out.belowAll hI).elem (List.getElem_mem hlt)) ((hAq.out.belowAll hI).elem (List.getElem_mem hqx)) HLK.out HLQ.out).mono ?_
                      rw [HU2.out]
                      rintro e w'' ⟨rfl, hb2⟩
                      exact ⟨rfl, hI.trans (hb2.mono hI.size)⟩
                    simp only [Act.put, List.setIfInBounds_toArray, List.set_cons_zero, List.set_cons_succ]
                    refine' wpInv_step (by rfl) (fun w' hI => ?_) ?_
                    rotate_left
                    · have hf := HF.out w' hI
                      unfold invAt
                      go_simp
                      first | exact rfl | exact ⟨rfl, hI⟩
                    simp only [Act.put, List.setIfInBounds_toArray, List.set_cons_zero, List.set_cons_succ]
                    intro w2 hI2
                    go_wp2_with fail
                    go_roundw
                    case rel =>
                      refine ⟨q + 1, by omega, by go_num, fun p hp hp' => ?_, hbq.trans (hI2.mono hbq.size)⟩
                      by_cases hpq : p < q
                      · exact HQ.out p hpq hp'
                      · obtain rfl : p = q := by omega
                        exact ⟨HU1.out, HU2.out⟩
                    case measure => simp [intOf]; omega
              · have hqi : ¬ (q : Int) < (k : Int) := by omega
                go_wp2_with fail
                go_roundw
                case rel =>
                  refine ⟨k + 1, by omega, by go_num, fun j hj hj' => ?_, hbq⟩
                  by_cases hjk : j < k
                  · exact HR.out j hjk hj'
                  · obtain rfl : j = k := by omega
                    exact ⟨HS.out, HO.out, fun p hp => HQ.out p (by omega) (by omega)⟩
                case measure => simp [intOf]; omega
          · skip
            go_wp2_with fail
            have HF : Hid (∀ w', Below wr.heap.size wr w' → (w'.cell? ⟨a, ao + (k) * 3, none⟩ = some xs[k].vv.val ∧ w'.cell? ⟨a, ao + (k) * 3 + 1, none⟩ = some (.bool xs[k].gone) ∧ w'.cell? ⟨a, ao + (k) * 3 + 2, none⟩ = some (.string xs[k].text)) ∧
                (w'.cell? ⟨a, ao + m * 3, none⟩ = some xs[m].vv.val ∧ w'.cell? ⟨a, ao + m * 3 + 1, none⟩ = some (.bool xs[m].gone) ∧ w'.cell? ⟨a, ao + m * 3 + 2, none⟩ = some (.string xs[m].text))) := fun w' h =>
              ⟨(hAw.out.belowAll h).sib rfl ‹_›, (hAw.out.belowAll h).sib rfl ‹_›⟩
            refine wp_region_inv 23 (by kernel_rfl) (by kernel_rfl) (fun w' => Below wr.heap.size wr w') (Below.refl _ _).drew ?_
            simp only [List.take_succ_cons, List.take_zero, List.drop_succ_cons, List.drop_zero]
            refine' wpInv_step (by rfl) (fun w' hI => ?_) ?_
            rotate_left
            · have hf := HF.out w' hI
              unfold invAt
              go_simp
              first | exact rfl | exact ⟨rfl, hI⟩
            simp only [Act.put, List.setIfInBounds_toArray, List.set_cons_zero, List.set_cons_succ]
            refine' wpInv_step (by rfl) (fun w' hI => ?_) ?_
            rotate_left
            · have hf := HF.out w' hI
              unfold invAt
              go_simp
              first | exact rfl | exact ⟨rfl, hI⟩
            simp only [Act.put, List.setIfInBounds_toArray, List.set_cons_zero, List.set_cons_succ]
            refine' wpInv_step (by rfl) (fun w' hI => ?_) ?_
            rotate_left
            · have hf := HF.out w' hI
              unfold invAt
              go_simp
              first | exact rfl | exact ⟨rfl, hI⟩
            simp only [Act.put, List.setIfInBounds_toArray, List.set_cons_zero, List.set_cons_succ]
            refine' wpInv_step (by rfl) (fun w' hI => ?_) ?_
            rotate_left
            · have hf := HF.out w' hI
              unfold invAt
              go_simp
              first | exact rfl | exact ⟨rfl, hI⟩
            simp only [Act.put, List.setIfInBounds_toArray, List.set_cons_zero, List.set_cons_succ]
            refine' wpInv_step (by rfl) (fun w' hI => ?_) ?_
            rotate_left
            · have hf := HF.out w' hI
              unfold invAt
              go_simp
              clear hf
              refine (sSibOk_any xs[k] w' ((hAw.out.belowAll hI).elem (List.getElem_mem hlt))).mono ?_
              rw [HS.out]
              rintro e w'' ⟨rfl, hb2⟩
              exact ⟨rfl, hI.trans (hb2.mono hI.size)⟩
            simp only [Act.put, List.setIfInBounds_toArray, List.set_cons_zero, List.set_cons_succ]
            refine' wpInv_step (by rfl) (fun w' hI => ?_) ?_
            rotate_left
            · have hf := HF.out w' hI
              unfold invAt
              go_simp
              first | exact rfl | exact ⟨rfl, hI⟩
            simp only [Act.put, List.setIfInBounds_toArray, List.set_cons_zero, List.set_cons_succ]
            refine' wpInv_step (by rfl) (fun w' hI => ?_) ?_
            rotate_left
            · have hf := HF.out w' hI
              unfold invAt
              go_simp
              first | exact rfl | exact ⟨rfl, hI⟩
            simp only [Act.put, List.setIfInBounds_toArray, List.set_cons_zero, List.set_cons_succ]
            refine' wpInv_step (by rfl) (fun w' hI => ?_) ?_
            rotate_left
            · have hf := HF.out w' hI
              unfold invAt
              go_simp
              first | exact rfl | exact ⟨rfl, hI⟩
            simp only [Act.put, List.setIfInBounds_toArray, List.set_cons_zero, List.set_cons_succ]
            refine' wpInv_step (by rfl) (fun w' hI => ?_) ?_
            rotate_left
            · have hf := HF.out w' hI
              unfold invAt
              go_simp
              first | exact rfl | exact ⟨rfl, hI⟩
            simp only [Act.put, List.setIfInBounds_toArray, List.set_cons_zero, List.set_cons_succ]
            refine' wpInv_step (by rfl) (fun w' hI => ?_) ?_
            rotate_left
            · have hf := HF.out w' hI
              unfold invAt
              go_simp
              first | exact rfl | exact ⟨rfl, hI⟩
            simp only [Act.put, List.setIfInBounds_toArray, List.set_cons_zero, List.set_cons_succ]
            refine' wpInv_step (by rfl) (fun w' hI => ?_) ?_
            rotate_left
            · have hf := HF.out w' hI
              unfold invAt
              go_simp
              first | exact rfl | exact ⟨rfl, hI⟩
            simp only [Act.put, List.setIfInBounds_toArray, List.set_cons_zero, List.set_cons_succ]
            refine' wpInv_step (by rfl) (fun w' hI => ?_) ?_
            rotate_left
            · have hf := HF.out w' hI
              unfold invAt
              go_simp
              first | exact rfl | exact ⟨rfl, hI⟩
            simp only [Act.put, List.setIfInBounds_toArray, List.set_cons_zero, List.set_cons_succ]
            refine' wpInv_step (by rfl) (fun w' hI => ?_) ?_
            rotate_left
            · have hf := HF.out w' hI
              unfold invAt
              go_simp
              first | exact rfl | exact ⟨rfl, hI⟩
            simp only [Act.put, List.setIfInBounds_toArray, List.set_cons_zero, List.set_cons_succ]
            refine' wpInv_step (by rfl) (fun w' hI => ?_) ?_
            rotate_left
            · have hf := HF.out w' hI
              unfold invAt
              go_simp
              first | exact rfl | exact ⟨rfl, hI⟩
            simp only [Act.put, List.setIfInBounds_toArray, List.set_cons_zero, List.set_cons_succ]
            refine' wpInv_step (by rfl) (fun w' hI => ?_) ?_
            rotate_left
            · have hf := HF.out w' hI
              unfold invAt
              go_simp
              first | exact rfl | exact ⟨rfl, hI⟩
            simp only [Act.put, List.setIfInBounds_toArray, List.set_cons_zero, List.set_cons_succ]
            refine' wpInv_step (by rfl) (fun w' hI => ?_) ?_
            rotate_left
            · have hf := HF.out w' hI
              unfold invAt
              go_simp
              first | exact rfl | exact ⟨rfl, hI⟩
            simp only [Act.put, List.setIfInBounds_toArray, List.set_cons_zero, List.set_cons_succ]
            refine' wpInv_step (by rfl) (fun w' hI => ?_) ?_
            rotate_left
            · have hf := HF.out w' hI
              unfold invAt
              go_simp
              first | exact rfl | exact ⟨rfl, hI⟩
            simp only [Act.put, List.setIfInBounds_toArray, List.set_cons_zero, List.set_cons_succ]
            refine' wpInv_step (by rfl) (fun w' hI => ?_) ?_
            rotate_left
            · have hf := HF.out w' hI
              unfold invAt
              go_simp
              first | exact rfl | exact ⟨rfl, hI⟩
            simp only [Act.put, List.setIfInBounds_toArray, List.set_cons_zero, List.set_cons_succ]
            refine' wpInv_step (by rfl) (fun w' hI => ?_) ?_
            rotate_left
            · have hf := HF.out w' hI
              unfold invAt
              go_simp
              first | exact rfl | exact ⟨rfl, hI⟩
            simp only [Act.put, List.setIfInBounds_toArray, List.set_cons_zero, List.set_cons_succ]
            refine' wpInv_step (by rfl) (fun w' hI => ?_) ?_
            rotate_left
            · have hf := HF.out w' hI
              unfold invAt
              go_simp
              clear hf
              refine (sl2Cmp_any xs[m] xs[k] w' ((hAw.out.belowAll hI).elem (List.getElem_mem hm)) ((hAw.out.belowAll hI).elem (List.getElem_mem hlt)) HLM.out HLK.out).mono ?_
              rw [HC.out]
              rintro e w'' ⟨rfl, hb2⟩
              exact ⟨rfl, hI.trans (hb2.mono hI.size)⟩
            simp only [Act.put, List.setIfInBounds_toArray, List.set_cons_zero, List.set_cons_succ]
            refine' wpInv_step (by rfl) (fun w' hI => ?_) ?_
            rotate_left
            · have hf := HF.out w' hI
              unfold invAt
              go_simp
              first | exact rfl | exact ⟨rfl, hI⟩
            simp only [Act.put, List.setIfInBounds_toArray, List.set_cons_zero, List.set_cons_succ]
            refine' wpInv_step (by rfl) (fun w' hI => ?_) ?_
            rotate_left
            · have hf := HF.out w' hI
              unfold invAt
              go_simp
              first | exact rfl | exact ⟨rfl, hI⟩
            simp only [Act.put, List.setIfInBounds_toArray, List.set_cons_zero, List.set_cons_succ]
            refine' wpInv_step (by rfl) (fun w' hI => ?_) ?_
            rotate_left
            · have hf := HF.out w' hI
              unfold invAt
              go_simp
              first | exact rfl | exact ⟨rfl, hI⟩
            simp only [Act.put, List.setIfInBounds_toArray, List.set_cons_zero, List.set_cons_succ]
            intro w1 hI
            go_wp2_with fail
            go_ret
            refine ⟨ret_bool (sibsB_false fun h => ?_).symm, hb.trans (hI.mono hb.size)⟩
            have hkm := HKM.out
            subst hkm
            have := h.asc m (by simpa using hlt)
            rw [List.getElem_map, List.getElem_map, HC.out] at this
            omega
    · have hkk : k = xs.length := by omega
      subst hkk
      have HO := Lib.hid (show SibsTo xs xs.length from HR.out)
      clear HR
      have hc0 := l6In_any (xs.length : Int) 1 12 wr
      have hOK : Hid (decide (1 ≤ (xs.length : Int) ∧ (xs.length : Int) ≤ 12) = sibsB (xs.map LSib.er)) := by
        show _ = _
        have hf : ∀ i j (hi : i < xs.length) (hj : j < xs.length), supB xs[i].er xs[j].er = false := by
          intro i j hi hj
          rcases Nat.lt_trichotomy i j with h | h | h
          · exact ((HO.out j hj hj).2.2 i h).1
          · subst h; exact supB_self _
          · exact ((HO.out i hi hi).2.2 j h).2
        by_cases h : 1 ≤ (xs.length : Int) ∧ (xs.length : Int) ≤ 12
        · rw [decide_eq_true h]
          symm
          apply sibsB_true
          refine ⟨fun i h => ?_, fun i h => ?_, fun a ha b hb => ?_, ?_, ?_⟩
          · rw [List.getElem_map]; exact (HO.out i (by simpa using h) (by simpa using h)).1
          · rw [List.getElem_map, List.getElem_map]; exact (HO.out (i + 1) (by simpa using h) (by simpa using h)).2.1 i rfl
          · obtain ⟨a', ha', rfl⟩ := List.mem_map.1 ha
            obtain ⟨b', hb', rfl⟩ := List.mem_map.1 hb
            obtain ⟨i, hi, rfl⟩ := List.getElem_of_mem ha'
            obtain ⟨j, hj, rfl⟩ := List.getElem_of_mem hb'
            exact hf i j hi hj
          · simp; omega
          · simp; omega
        · rw [decide_eq_false h]
          symm
          apply sibsB_false
          intro h'
          have h1 := h'.some_
          have h2 := h'.few
          simp at h1 h2
          omega
      rw [hOK.out] at hc0
      have hc := Lib.hid hc0
      clear hc0
      go_wp2_with (go_at_call 89; refine hc.out.mono ?_; rintro e w' ⟨rfl, rfl⟩)
      go_ret
      exact ⟨rfl, hb⟩
end Go.Proofs.YtdidkfadiaafiaaGreatDoor
