/- The laws' held on records: what was marked is found again. -/
import Derived.Test.YtpgdelfdaalhbaaDoorMarkR
namespace Go.Proofs.YtpgdelfdaalhbaaDoor
open Go Go.RowKit

theorem nextB0 {w a b : World} (h : Below w.heap.size w a) (h2 : Below a.heap.size a b) : Below w.heap.size w b := h.trans (h2.mono h.size)

set_option maxRecDepth 100000 in
set_option maxHeartbeats 2000000 in
theorem heldRecS_any (x : Loc LRec) (k : Nat) (L : List Rec) (w : World) (hx : x.At w) (hc : x.xs.map LRec.er = markR k L) (hk0 : 1 ≤ k) (hk : k + lenR L ≤ 1099511627776) :
    Calls Tryd.prog 19 #[x.val, .int .i64 k] w fun e w' => e = .returned (.int .i64 ((k + lenR L : Nat) : Int)) ∧ Below w.heap.size w w' := by
  obtain ⟨xa, xc, xs⟩ := x
  simp only [Loc.val]
  have h1 := hx.lenMax
  simp only at hc h1
  have HX := Lib.hid hx
  have HK := Lib.hid hk
  have HLL : Hid (L.length = xs.length) := Lib.hid (by have := congrArg List.length hc; rw [List.length_map, markR_len] at this; exact this.symm)
  have HC := Lib.hid hc
  clear hx hk hc
  go_enter Tryd.func19, Tryd.ntmps19
  go_wp2_with fail
  go_loopw [1, 5] (fun c i wr => ∃ (j kj : Nat), j ≤ xs.length ∧ i = .int .i64 j ∧ c = .int .i64 kj ∧ kj = k + lenR (L.take j) ∧ Below w.heap.size w wr) (fun _ i _ => xs.length - (intOf i).toNat)
  case atStart => exact ⟨0, k, Nat.zero_le _, rfl, rfl, rfl, Below.refl _ _⟩
  case round =>
    obtain ⟨j, kj, hj, rfl, rfl, hkj, hb⟩ := hrel
    have HKJ := Lib.hid hkj
    have HB := Lib.hid hb
    have hkb : kj ≤ 1099511627776 := by have := HK.out; have := lenR_take_le L j; omega
    have hkp : 1 ≤ kj := by omega
    clear hb hkj
    by_cases hlt : j < xs.length
    · have hlL : j < L.length := by have := HLL.out; omega
      have hej : xs[j].er = ⟨(kj : Int), markT (kj + 1), markS (kj + 2) L[j].sibs, ((kj + 2 + lenS L[j].sibs : Nat) : Int), ((kj + 3 + lenS L[j].sibs : Nat) : Int)⟩ := by
        have h := congrArg (fun l => l[j]?) HC.out
        simp only [List.getElem?_map, List.getElem?_eq_getElem hlt, Option.map_some] at h
        rw [List.getElem?_eq_getElem (by rw [markR_len]; exact hlL), markR_get hlL, ← HKJ.out] at h
        exact Option.some.inj h
      have hln := lenR_take hlL
      have hn : kj + (4 + lenS L[j].sibs) ≤ 1099511627776 := by
        have h3 := lenR_take_le L (j + 1)
        have h4 := HK.out
        have h6 := HKJ.out
        omega
      have hln2 : kj + 4 + lenS L[j].sibs = k + lenR (L.take (j + 1)) := by rw [hln, HKJ.out]; omega
      have HSC := Lib.hid (show xs[j].sibs.xs.map LSib.er = markS (kj + 2) L[j].sibs from congrArg Rec.sibs hej)
      generalize hnn : lenS L[j].sibs = n at *
      have HNN := Lib.hid hnn
      have HLN := Lib.hid hln2
      obtain ⟨a, ao, ha⟩ := HX.out.place hlt
      simp only at ha
      subst ha
      have HCELL := Lib.hid (fun (W : World) (h : Below w.heap.size w W) => (HX.out.belowAll h).rec_ rfl hlt)
      have HEL := Lib.hid (fun (W : World) (h : Below w.heap.size w W) => (HX.out.belowAll h).elem (List.getElem_mem hlt))
      have hcell := HCELL.out wr HB.out
      (try simp only at hcell)
      obtain ⟨c0, c1, -, -, -⟩ := hcell
      have g0 : xs[j].kind = (kj : Int) := congrArg Rec.kind hej
      have G1 := Lib.hid (show xs[j].name = markT (kj + 1) from congrArg Rec.name hej)
      have G3 := Lib.hid (show xs[j].n = (kj : Int) + 1 + 1 + n by have h := congrArg Rec.n hej; simp only [LRec.er] at h; rw [h]; omega)
      have G4 := Lib.hid (show xs[j].sum = (kj : Int) + 1 + 1 + n + 1 by have h := congrArg Rec.sum hej; simp only [LRec.er] at h; rw [h]; omega)
      rw [g0] at c0
      rw [G1.out] at c1
      have HC1 := Lib.hid c1
      have hne : ((kj : Int) != (kj : Int)) = false := by simp
      have hm : Hid (∀ W, Calls Tryd.prog 48 #[.int .i64 ((kj : Int) + 1)] W fun e w' => e = .returned (.string (markT (kj + 1))) ∧ (markT (kj + 1)).size ≤ maxLen ∧ Below W.heap.size W w') := Lib.hid (fun W => by
        have h := markText_any (kj + 1) W (by omega) (by omega)
        rwa [show ((kj + 1 : Nat) : Int) = (kj : Int) + 1 from by omega] at h)
      clear hej hln hln2 hnn g0
      go_wp2_with fail
      have HF : Hid (∀ w', Below wr.heap.size wr w' → w'.cell? ⟨a, ao + j * 5 + 1, none⟩ = some (.string (markT (kj + 1)))) := Lib.hid (fun w' h => by
        have hlt3 : a < wr.heap.size := World.block_lt_of_cell? wr _ HC1.out
        rw [h.cell (by simpa using hlt3)]; exact HC1.out)
      refine wp_region_inv 9 (by kernel_rfl) (by kernel_rfl) (fun w' => Below wr.heap.size wr w') (Below.refl _ _).drew ?_
      simp only [List.take_succ_cons, List.take_zero, List.drop_succ_cons, List.drop_zero]
      refine' wpInv_step (by rfl) (fun w' hI => ?_) ?_
      rotate_left
      · have hf := HF.out w' hI
        unfold invAt
        go_simp
        first | exact rfl | exact ⟨rfl, hI⟩
      simp only [Act.put, List.setIfInBounds_toArray, List.set_cons_zero, List.set_cons_succ]
      refine' wpInv_step (by rfl) (fun w' hI => ?_) ?_
      rotate_left
      · have hf := HF.out w' hI
        unfold invAt
        go_simp
        first | exact rfl | exact ⟨rfl, hI⟩
      simp only [Act.put, List.setIfInBounds_toArray, List.set_cons_zero, List.set_cons_succ]
      refine' wpInv_step (by rfl) (fun w' hI => ?_) ?_
      rotate_left
      · have hf := HF.out w' hI
        unfold invAt
        go_simp
        first | exact rfl | exact ⟨rfl, hI⟩
      simp only [Act.put, List.setIfInBounds_toArray, List.set_cons_zero, List.set_cons_succ]
      refine' wpInv_step (by rfl) (fun w' hI => ?_) ?_
      rotate_left
      · have hf := HF.out w' hI
        unfold invAt
        go_simp
        first | exact rfl | exact ⟨rfl, hI⟩
      simp only [Act.put, List.setIfInBounds_toArray, List.set_cons_zero, List.set_cons_succ]
      refine' wpInv_step (by rfl) (fun w' hI => ?_) ?_
      rotate_left
      · have hf := HF.out w' hI
        unfold invAt
        go_simp
        first | exact rfl | exact ⟨rfl, hI⟩
      simp only [Act.put, List.setIfInBounds_toArray, List.set_cons_zero, List.set_cons_succ]
      refine' wpInv_step (by rfl) (fun w' hI => ?_) ?_
      rotate_left
      · have hf := HF.out w' hI
        unfold invAt
        go_simp
        first | exact rfl | exact ⟨rfl, hI⟩
      simp only [Act.put, List.setIfInBounds_toArray, List.set_cons_zero, List.set_cons_succ]
      refine' wpInv_step (by rfl) (fun w' hI => ?_) ?_
      rotate_left
      · have hf := HF.out w' hI
        unfold invAt
        go_simp
        first | exact rfl | exact ⟨rfl, hI⟩
      simp only [Act.put, List.setIfInBounds_toArray, List.set_cons_zero, List.set_cons_succ]
      refine' wpInv_step (by rfl) (fun w' hI => ?_) ?_
      rotate_left
      · have hf := HF.out w' hI
        unfold invAt
        go_simp
        clear hf
        refine (hm.out w').mono ?_
        rintro e w'' ⟨rfl, -, hb2⟩
        exact ⟨rfl, hI.trans (hb2.mono hI.size)⟩
      simp only [Act.put, List.setIfInBounds_toArray, List.set_cons_zero, List.set_cons_succ]
      refine' wpInv_step (by rfl) (fun w' hI => ?_) ?_
      rotate_left
      · have hf := HF.out w' hI
        unfold invAt
        go_simp
        first | exact rfl | exact ⟨rfl, hI⟩
      simp only [Act.put, List.setIfInBounds_toArray, List.set_cons_zero, List.set_cons_succ]
      intro w1 hI
      have B1 := Lib.hid (HB.out.trans (hI.mono HB.out.size))
      have hcell := HCELL.out w1 B1.out
      (try simp only at hcell)
      obtain ⟨-, -, d2, -, -⟩ := hcell
      have hs := heldSibS_any xs[j].sibs (kj + 2) L[j].sibs w1 (HEL.out w1 B1.out).1 HSC.out (by omega) (by rw [HNN.out]; omega)
      rw [HNN.out, show ((kj + 2 : Nat) : Int) = (kj : Int) + 1 + 1 from by omega, show ((kj + 2 + n : Nat) : Int) = (kj : Int) + 1 + 1 + n from by omega] at hs
      have HS := Lib.hid hs
      clear hI HF c0 c1 hs
      go_wp2_with fail
      refine HS.out.mono ?_
      rintro e w2 ⟨rfl, hb2⟩
      have B2 := Lib.hid (nextB0 B1.out hb2)
      have hcell := HCELL.out w2 B2.out
      (try simp only at hcell)
      obtain ⟨-, -, -, d3, d4⟩ := hcell
      rw [G3.out] at d3
      rw [G4.out] at d4
      have hne3 : ((kj : Int) + 1 + 1 + n != (kj : Int) + 1 + 1 + n) = false := by simp
      have hne4 : ((kj : Int) + 1 + 1 + n + 1 != (kj : Int) + 1 + 1 + n + 1) = false := by simp
      clear hb2 d2 HS
      go_wp2_with fail
      go_roundw
      case rel => exact ⟨j + 1, kj + 4 + n, by omega, by go_num, by go_num, HLN.out, B2.out⟩
      case measure => simp [intOf]; omega
    · have hjj : j = xs.length := by omega
      subst hjj
      go_wp2_with fail
      go_ret
      have e1 : L.take xs.length = L := List.take_of_length_le (by rw [HLL.out]; exact Nat.le_refl _)
      exact ⟨ret_int (by have := HKJ.out; rw [e1] at this; rw [this]), HB.out⟩
end Go.Proofs.YtpgdelfdaalhbaaDoor
