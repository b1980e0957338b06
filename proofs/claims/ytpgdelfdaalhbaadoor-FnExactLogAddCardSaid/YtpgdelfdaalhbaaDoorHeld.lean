/- The laws' held: what was marked is found again. -/
import Derived.Test.YtpgdelfdaalhbaaDoorMark2
namespace Go.Proofs.YtpgdelfdaalhbaaDoor
open Go Go.RowKit

set_option maxRecDepth 100000 in
set_option maxHeartbeats 1000000 in
theorem heldSibS_any (x : Loc LSib) (k : Nat) (L : List Sib) (w : World) (hx : x.At w) (hc : x.xs.map LSib.er = markS k L) (hk0 : 1 ≤ k) (hk : k + lenS L ≤ 1099511627776) :
    Calls Tryd.prog 50 #[x.val, .int .i64 k] w fun e w' => e = .returned (.int .i64 ((k + lenS L : Nat) : Int)) ∧ Below w.heap.size w w' := by
  obtain ⟨xa, xc, xs⟩ := x
  simp only [Loc.val]
  have h1 := hx.lenMax
  simp only at hc h1
  have HX := Lib.hid hx
  have HK := Lib.hid hk
  have HLL : Hid (L.length = xs.length) := Lib.hid (by have := congrArg List.length hc; rw [List.length_map, markS_len] at this; exact this.symm)
  have HC := Lib.hid hc
  clear hx hk hc
  go_enter Tryd.func50, Tryd.ntmps50
  go_wp2_with fail
  go_loopw [1, 5] (fun c i wr => ∃ (j kj : Nat), j ≤ xs.length ∧ i = .int .i64 j ∧ c = .int .i64 kj ∧ kj = k + lenS (L.take j) ∧ Below w.heap.size w wr) (fun _ i _ => xs.length - (intOf i).toNat)
  case atStart => exact ⟨0, k, Nat.zero_le _, rfl, rfl, rfl, Below.refl _ _⟩
  case round =>
    obtain ⟨j, kj, hj, rfl, rfl, hkj, hb⟩ := hrel
    have HKJ := Lib.hid hkj
    have HB := Lib.hid hb
    have hkb : kj ≤ 1099511627776 := by have := HK.out; have := lenS_take_le L j; omega
    have hkp : 1 ≤ kj := by omega
    clear hb hkj
    by_cases hlt : j < xs.length
    · have hlL : j < L.length := by have := HLL.out; omega
      have hej : xs[j].er = ⟨markI L[j].vv.length kj, ((kj + L[j].vv.length : Nat) : Int) % 3 == 0, markT (kj + L[j].vv.length + 1)⟩ := by
        have h := congrArg (fun l => l[j]?) HC.out
        simp only [List.getElem?_map, List.getElem?_eq_getElem hlt, Option.map_some] at h
        rw [List.getElem?_eq_getElem (by rw [markS_len]; exact hlL), markS_get hlL, ← HKJ.out] at h
        exact Option.some.inj h
      have hln := lenS_take hlL
      have hn : kj + (L[j].vv.length + 2) ≤ 1099511627776 := by
        have h3 := lenS_take_le L (j + 1)
        have h4 := HK.out
        have h6 := HKJ.out
        omega
      have hln2 : kj + L[j].vv.length + 2 = k + lenS (L.take (j + 1)) := by rw [hln, HKJ.out]; omega
      generalize L[j].vv.length = n at *
      have HEJ := Lib.hid hej
      have HLN := Lib.hid hln2
      obtain ⟨a, ao, ha⟩ := HX.out.place hlt
      simp only at ha
      subst ha
      have hcell := (HX.out.belowAll HB.out).sib rfl hlt
      simp only at hcell
      obtain ⟨c0, c1, c2⟩ := hcell
      have g1 : xs[j].gone = (((kj : Int) + n) % 3 == 0) := by have := congrArg Sib.gone HEJ.out; simp only [LSib.er] at this; rw [this]; congr 2
      have g2 : xs[j].text = markT (kj + n + 1) := congrArg Sib.text HEJ.out
      rw [g1] at c1
      rw [g2] at c2
      have HC1 := Lib.hid c1
      have HC2 := Lib.hid c2
      have hh := Lib.hid (heldIntS_any xs[j].vv kj n wr ((HX.out.belowAll HB.out).elem (List.getElem_mem hlt)).1 (congrArg Sib.vv HEJ.out) (by omega))
      have hbb : ((((kj : Int) + n) % 3 == 0) != (((kj : Int) + n) % 3 == 0)) = false := by simp
      clear g1 g2 hej hln hln2
      have hadd : ((kj + n : Nat) : Int) = (kj : Int) + n := by omega
      go_wp2_with fail
      refine hh.out.mono ?_
      rintro e w1 ⟨rfl, rfl⟩
      clear hadd
      go_wp2_with fail
      have HF : Hid (∀ w', Below wr.heap.size wr w' → w'.cell? ⟨a, ao + j * 3 + 2, none⟩ = some (.string (markT (kj + n + 1)))) := Lib.hid (fun w' h => by
        have hlt3 : a < wr.heap.size := World.block_lt_of_cell? wr _ HC2.out
        rw [h.cell (by simpa using hlt3)]; exact HC2.out)
      have hm : Hid (∀ W, Calls Tryd.prog 48 #[.int .i64 ((kj : Int) + n + 1)] W fun e w' => e = .returned (.string (markT (kj + n + 1))) ∧ (markT (kj + n + 1)).size ≤ maxLen ∧ Below W.heap.size W w') := Lib.hid (fun W => by
        have h := markText_any (kj + n + 1) W (by omega) (by omega)
        have ecast : ((kj + n + 1 : Nat) : Int) = (kj : Int) + n + 1 := by omega
        rwa [ecast] at h)
      refine wp_region_inv 8 (by kernel_rfl) (by kernel_rfl) (fun w' => Below wr.heap.size wr w') (Below.refl _ _).drew ?_
      simp only [List.take_succ_cons, List.take_zero, List.drop_succ_cons, List.drop_zero]
      refine' wpInv_step (by rfl) (fun w' hI => ?_) ?_
      rotate_left
      · have hf := HF.out w' hI
        unfold invAt
        go_simp
        first | exact rfl | exact ⟨rfl, hI⟩
      simp only [Act.put, List.setIfInBounds_toArray, List.set_cons_zero, List.set_cons_succ]
      refine' wpInv_step (by rfl) (fun w' hI => ?_) ?_
      rotate_left
      · have hf := HF.out w' hI
        unfold invAt
        go_simp
        first | exact rfl | exact ⟨rfl, hI⟩
      simp only [Act.put, List.setIfInBounds_toArray, List.set_cons_zero, List.set_cons_succ]
      refine' wpInv_step (by rfl) (fun w' hI => ?_) ?_
      rotate_left
      · have hf := HF.out w' hI
        unfold invAt
        go_simp
        first | exact rfl | exact ⟨rfl, hI⟩
      simp only [Act.put, List.setIfInBounds_toArray, List.set_cons_zero, List.set_cons_succ]
      refine' wpInv_step (by rfl) (fun w' hI => ?_) ?_
      rotate_left
      · have hf := HF.out w' hI
        unfold invAt
        go_simp
        first | exact rfl | exact ⟨rfl, hI⟩
      simp only [Act.put, List.setIfInBounds_toArray, List.set_cons_zero, List.set_cons_succ]
      refine' wpInv_step (by rfl) (fun w' hI => ?_) ?_
      rotate_left
      · have hf := HF.out w' hI
        unfold invAt
        go_simp
        first | exact rfl | exact ⟨rfl, hI⟩
      simp only [Act.put, List.setIfInBounds_toArray, List.set_cons_zero, List.set_cons_succ]
      refine' wpInv_step (by rfl) (fun w' hI => ?_) ?_
      rotate_left
      · have hf := HF.out w' hI
        unfold invAt
        go_simp
        first | exact rfl | exact ⟨rfl, hI⟩
      simp only [Act.put, List.setIfInBounds_toArray, List.set_cons_zero, List.set_cons_succ]
      refine' wpInv_step (by rfl) (fun w' hI => ?_) ?_
      rotate_left
      · have hf := HF.out w' hI
        unfold invAt
        go_simp
        clear hf
        refine (hm.out w').mono ?_
        rintro e w'' ⟨rfl, -, hb2⟩
        exact ⟨rfl, hI.trans (hb2.mono hI.size)⟩
      simp only [Act.put, List.setIfInBounds_toArray, List.set_cons_zero, List.set_cons_succ]
      refine' wpInv_step (by rfl) (fun w' hI => ?_) ?_
      rotate_left
      · have hf := HF.out w' hI
        unfold invAt
        go_simp
        first | exact rfl | exact ⟨rfl, hI⟩
      simp only [Act.put, List.setIfInBounds_toArray, List.set_cons_zero, List.set_cons_succ]
      intro w1 hI
      have HI := Lib.hid (HB.out.trans (hI.mono HB.out.size))
      clear hI HF c0 c1 c2
      go_wp2_with fail
      go_roundw
      case rel => exact ⟨j + 1, kj + n + 2, by omega, by go_num, by go_num, HLN.out, HI.out⟩
      case measure => simp [intOf]; omega
    · have hjj : j = xs.length := by omega
      subst hjj
      go_wp2_with fail
      go_ret
      have e1 : L.take xs.length = L := List.take_of_length_le (by rw [HLL.out]; exact Nat.le_refl _)
      exact ⟨ret_int (by have := HKJ.out; rw [e1] at this; rw [this]), HB.out⟩
end Go.Proofs.YtpgdelfdaalhbaaDoor
