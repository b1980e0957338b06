/- The reference's draws: l71Vv, l71Text. -/
import Derived.Test.YtdbejmnfnbkndaaDoorDraw1
namespace Go.Proofs.YtdbejmnfnbkndaaDoor
open Go Go.RowKit

theorem row3_At {w : World} {g : Nat} {e : TypeId} {a b c : Int} (h : w.heap[g]? = some (.cells #[.int .i64 a, .int .i64 b, .int .i64 c] e (0, 0))) : Loc.At w (⟨some ⟨g, 0, none⟩, 3, [a, b, c]⟩ : Loc Int) :=
  blk_At h [a, b, c] 3 rfl (Nat.le_refl _) (by decide) (fun _ _ => trivial)

set_option maxRecDepth 100000 in
set_option maxHeartbeats 1000000 in
theorem l71Vv_any (R : Nat) (code : Loc UInt8) (N : Nat) (w : World) (h : Rd R code N w) (hN : N ≤ 900000000) :
    Calls Tryd.prog 77 #[.pointer (some ⟨R, 0, none⟩)] w (DrawPost (α := Int) R code (N + 10) w (fun l => l.length ≤ 3)) := by
  have H0 := Lib.hid h.refl
  have HS := Lib.hid h.lt
  have HCL := Lib.hid (Loc.lt_of_At h.at_)
  clear h
  go_enter Tryd.func77, Tryd.ntmps77
  go_wp2_with fail
  refine (pick_any R code (N) 4 w H0.out.rd (by omega) (by decide) (by decide)).mono ?_
  rintro e w1 ⟨⟨a, rfl, al, ah⟩, hd⟩
  have H1 := Lib.hid (H0.out.trans hd)
  have TH1 := Lib.hid hd.touch
  clear hd
  go_wp2_with fail
  refine (pick_any R code (N + 1) 4 w1 H1.out.rd (by omega) (by decide) (by decide)).mono ?_
  rintro e w2 ⟨⟨b, rfl, bl, bh⟩, hd⟩
  have H2 := Lib.hid (H1.out.trans hd)
  have TH2 := Lib.hid hd.touch
  clear hd
  go_wp2_with fail
  refine (pick_any R code (N + 2) 4 w2 H2.out.rd (by omega) (by decide) (by decide)).mono ?_
  rintro e w3 ⟨⟨c, rfl, cl, ch⟩, hd⟩
  have H3 := Lib.hid (H2.out.trans hd)
  have TH3 := Lib.hid hd.touch
  clear hd
  have hB4 : Below w3.heap.size w3 (w3.alloc (Obj.cells #[.int .i64 a, .int .i64 b, .int .i64 c] 3)) := (Below.refl _ _).alloc (Nat.le_refl _) _
  have H4 := Lib.hid (H3.out.later hB4)
  have hr4 := heap_alloc_new w3 (Obj.cells #[.int .i64 a, .int .i64 b, .int .i64 c] 3)
  have HR4 := Lib.hid hr4
  have HZ4 : Hid ((w3.alloc (Obj.cells #[.int .i64 a, .int .i64 b, .int .i64 c] 3)).heap.size = w3.heap.size + 1) := Lib.hid (by simp)
  have HRV : Hid (R ≠ w3.heap.size) := Lib.hid (by have := HS.out; have := H3.out.touch.size; omega)
  have HVW : Hid (w.heap.size ≤ w3.heap.size) := Lib.hid H3.out.touch.size
  clear hB4 hr4
  go_wp2_with fail
  generalize hw4 : w3.alloc (Obj.cells #[.int .i64 a, .int .i64 b, .int .i64 c] 3) = w4 at *
  clear hw4
  refine (pick_any R code (N + 3) 40 w4 H4.out.rd (by omega) (by decide) (by decide)).mono ?_
  rintro e w5 ⟨⟨k, rfl, kl, kh⟩, hd⟩
  have H5 := Lib.hid (H4.out.trans hd)
  have TH5 := Lib.hid hd.touch
  clear hd
  have HR5 := Lib.hid ((TH5.out.block w3.heap.size (by rw [HZ4.out]; omega) (by simpa using fun h => HRV.out h.symm)).trans HR4.out)
  have HZ5 := Lib.hid (show w3.heap.size < w5.heap.size by have := TH5.out.size; rw [HZ4.out] at this; omega)
  by_cases hk0 : k = 0
  · subst hk0
    go_wp2_with fail
    refine (pick_any R code (N + 4) 3 w5 H5.out.rd (by omega) (by decide) (by decide)).mono ?_
    rintro e w6 ⟨⟨i, rfl, il, ih⟩, hd⟩
    have H6 := Lib.hid (H5.out.trans hd)
    have TH6 := Lib.hid hd.touch
    clear hd
    obtain ⟨i, rfl⟩ : ∃ j : Nat, i = (j : Int) := ⟨i.toNat, by omega⟩
    have HR6 := Lib.hid ((TH6.out.block w3.heap.size HZ5.out (by simpa using fun h => HRV.out h.symm)).trans HR5.out)
    have HZ6 := Lib.hid (show w3.heap.size < w6.heap.size from Nat.lt_of_lt_of_le HZ5.out TH6.out.size)
    have hB7 : Below w6.heap.size w6 (w6.alloc (Obj.cells #[.int .i64 (-1), .int .i64 30, .int .i64 31] 3)) := (Below.refl _ _).alloc (Nat.le_refl _) _
    have H7 := Lib.hid (H6.out.later hB7)
    have HR7 := Lib.hid ((hB7.block w3.heap.size HZ6.out).trans HR6.out)
    have HL7 := Lib.hid (heap_alloc_new w6 (Obj.cells #[.int .i64 (-1), .int .i64 30, .int .i64 31] 3))
    have HZ7 : Hid ((w6.alloc (Obj.cells #[.int .i64 (-1), .int .i64 30, .int .i64 31] 3)).heap.size = w6.heap.size + 1) := Lib.hid (by simp)
    have HRL : Hid (R ≠ w6.heap.size) := Lib.hid (by have := HS.out; have := H6.out.touch.size; omega)
    clear hB7
    go_wp2_with fail
    generalize hw7 : w6.alloc (Obj.cells #[.int .i64 (-1), .int .i64 30, .int .i64 31] 3) = w7 at *
    clear hw7
    refine (pick_any R code (N + 5) 3 w7 H7.out.rd (by omega) (by decide) (by decide)).mono ?_
    rintro e w8 ⟨⟨j, rfl, jl, jh⟩, hd⟩
    have H8 := Lib.hid (H7.out.trans hd)
    have TH8 := Lib.hid hd.touch
    clear hd
    obtain ⟨j, rfl⟩ : ∃ q : Nat, j = (q : Int) := ⟨j.toNat, by omega⟩
    have hr8 := (TH8.out.block w3.heap.size (by have := HZ6.out; rw [HZ7.out]; omega) (by simpa using fun h => HRV.out h.symm)).trans HR7.out
    have hl8 := (TH8.out.block w6.heap.size (by rw [HZ7.out]; omega) (by simpa using fun h => HRL.out h.symm)).trans HL7.out
    have HR8 := Lib.hid hr8
    have hcl : ∃ u : Int, w8.cell? ⟨w6.heap.size, j, none⟩ = some (.int .i64 u) := by
      rw [cell_of_row _ _ _ _ _ _ hl8]
      match j, jh with
      | 0, _ => exact ⟨_, rfl⟩
      | 1, _ => exact ⟨_, rfl⟩
      | 2, _ => exact ⟨_, rfl⟩
      | j + 3, hj => exact absurd hj (by omega)
    obtain ⟨u, hcl⟩ := hcl
    have hcv : ∃ q : Value, w8.cell? ⟨w3.heap.size, i, none⟩ = some q := by
      rw [cell_of_row _ _ _ _ _ _ hr8]
      exact ⟨_, Array.getElem?_eq_getElem (by simp; omega)⟩
    obtain ⟨q, hcv⟩ := hcv
    have hz := frozen_of_row _ _ i _ _ hr8
    clear hr8 hl8
    go_wp2_with fail
    go_ret
    have hrow := heap_setCell_same w8 w3.heap.size i _ _ (.int .i64 u) HR8.out
    have hT : Touch [R] w (w8.setCell ⟨w3.heap.size, i, none⟩ (.int .i64 u)) :=
      ⟨H8.out.touch.os, H8.out.touch.tape, H8.out.touch.output, by simpa using H8.out.touch.size, fun b hb hn => by rw [Below.heap_setCell _ _ _ _ (by simp; have := HVW.out; omega)]; exact H8.out.touch.block b hb hn⟩
    have hD : Drew R code (N + 10) w (w8.setCell ⟨w3.heap.size, i, none⟩ (.int .i64 u)) := by
      obtain ⟨⟨p, hp, hb⟩, hA, ho⟩ := H8.out.rd
      refine ⟨⟨⟨p, by omega, by rw [Below.heap_setCell _ _ _ _ (by simpa using HRV.out)]; exact hb⟩, Loc.keep_At hA fun b hb => ?_, ho⟩, hT⟩
      refine Below.heap_setCell _ _ _ _ ?_
      have := HCL.out b hb
      have := HVW.out
      simp only; omega
    have hA : ∃ a' b' c' : Int, (w8.setCell ⟨w3.heap.size, i, none⟩ (.int .i64 u)).heap[w3.heap.size]? = some (.cells #[.int .i64 a', .int .i64 b', .int .i64 c'] 3 (0, 0)) := by
      rw [hrow]
      match i, ih with
      | 0, _ => exact ⟨_, _, _, rfl⟩
      | 1, _ => exact ⟨_, _, _, rfl⟩
      | 2, _ => exact ⟨_, _, _, rfl⟩
      | i + 3, hi => exact absurd hi (by omega)
    obtain ⟨a', b', c', hA⟩ := hA
    exact ⟨⟨some ⟨w3.heap.size, 0, none⟩, 3, [a', b', c']⟩, rfl, by simp, row3_At hA, fun b hb => by simp [Loc.fp, Loc.blk, Dat.fp] at hb; have := HVW.out; omega, hD⟩
  · have hk0' : (k == 0) = false := by rw [beq_eq_false_iff_ne]; exact hk0
    have HA5 := Lib.hid (row3_At HR5.out)
    by_cases hk1 : k = 1
    · subst hk1
      go_wp2_with fail
      go_ret
      refine ⟨⟨some ⟨w3.heap.size, 1, none⟩, 2, [b, c]⟩, rfl, by simp, ?_, fun b hb => by simp [Loc.fp, Loc.blk, Dat.fp] at hb; have := HVW.out; omega, H5.out.mono (by omega)⟩
      refine ⟨Nat.le_refl _, (by decide : 2 ≤ maxLen), fun _ => ⟨_, rfl⟩, fun a ha i x hx j v hv => ?_, fun _ _ => trivial⟩
      simp only [Option.some.injEq] at ha
      subst ha
      rw [add_lit', cell_of_row _ _ _ _ _ _ HR5.out]
      match i, j, hx, hv with
      | 0, 0, hx, hv => simp at hx; subst hx; simpa [Dat.enc, Dat.k] using hv
      | 1, 0, hx, hv => simp at hx; subst hx; simpa [Dat.enc, Dat.k] using hv
      | i + 2, j, hx, hv => simp at hx
      | i, j + 1, hx, hv => simp [Dat.enc] at hv
    · have hk1' : (k == 1) = false := by rw [beq_eq_false_iff_ne]; exact hk1
      go_wp2_with fail
      go_ret
      exact ⟨⟨some ⟨w3.heap.size, 0, none⟩, 3, [a, b, c]⟩, rfl, by simp, HA5.out, fun b hb => by simp [Loc.fp, Loc.blk, Dat.fp] at hb; have := HVW.out; omega, H5.out.mono (by omega)⟩

theorem strs_At {w : World} {g n : Nat} {e : TypeId} {cs : Array Value} {xs : List ByteArray} (h : w.heap[g]? = some (.cells cs e (0, 0))) (hc : cs.toList = xs.flatMap Dat.enc) (hn : xs.length = n) (hm : n ≤ 1000) (hs : ∀ s ∈ xs, s.size ≤ 1000) :
    Loc.At w (⟨some ⟨g, 0, none⟩, n, xs⟩ : Loc ByteArray) :=
  blk_At h xs n (by rw [hc]; exact List.take_of_length_le (by rw [flatMap_len]; exact Nat.le_refl _)) (Nat.le_of_eq hn) (by simp only [maxLen]; omega) (fun s h => by have := hs s h; show s.size ≤ maxLen; simp only [maxLen]; omega)

set_option maxRecDepth 100000 in
set_option maxHeartbeats 1000000 in
theorem l71Text_any (R : Nat) (code : Loc UInt8) (N : Nat) (w : World) (h : Rd R code N w) (hN : N ≤ 900000000) :
    Calls Tryd.prog 78 #[.pointer (some ⟨R, 0, none⟩)] w fun e w' => (∃ s, e = .returned (.string s) ∧ s.size ≤ 100) ∧ Drew R code (N + 10) w w' := by
  have H0 := Lib.hid h.refl
  have HS := Lib.hid h.lt
  clear h
  go_enter Tryd.func78, Tryd.ntmps78
  go_wp2_with fail
  refine (pick_any R code (N) 4 w H0.out.rd (by omega) (by decide) (by decide)).mono ?_
  rintro e w1 ⟨⟨n, rfl, nl, nh⟩, hd⟩
  have H1 := Lib.hid (H0.out.trans hd)
  have TH1 := Lib.hid hd.touch
  clear hd
  obtain ⟨n, rfl⟩ : ∃ j : Nat, n = (j : Int) := ⟨n.toNat, by omega⟩
  go_wp2_with fail
  go_loopw [3, 4] (fun o i wr => ∃ (k : Nat) (s : ByteArray), k ≤ n ∧ i = .int .i64 k ∧ o = .string s ∧ s.size ≤ 4 * (n - k) ∧ Drew R code (N + 1 + (n - k)) w wr) (fun _ i _ => (intOf i).toNat)
  case atStart => exact ⟨n, _, Nat.le_refl _, rfl, rfl, Nat.zero_le _, by simpa using H1.out⟩
  case round =>
    obtain ⟨k, s, hk, rfl, rfl, hs, hD⟩ := hrel
    have HD := Lib.hid hD
    clear hD
    by_cases hk0 : 0 < k
    · have hk1 : (0 : Int) < (k : Int) := by omega
      go_wp2_with fail
      have hBw2 : Below wr.heap.size wr (wr.alloc (Obj.cells #[.string ⟨#[97]⟩, .string ⟨#[98]⟩, .string ⟨#[99]⟩, .string ⟨#[100]⟩] 9)) := (Below.refl _ _).alloc (Nat.le_refl _) _
      have HBw2 := Lib.hid (HD.out.later hBw2)
      have hsA := strs_At (xs := [⟨#[97]⟩, ⟨#[98]⟩, ⟨#[99]⟩, ⟨#[100]⟩]) (heap_alloc_new wr (Obj.cells #[.string ⟨#[97]⟩, .string ⟨#[98]⟩, .string ⟨#[99]⟩, .string ⟨#[100]⟩] 9)) rfl rfl (by decide) (by intro s hs; simp only [List.mem_cons, List.mem_nil_iff, or_false] at hs; (first | (rcases hs with rfl | rfl | rfl | rfl) | (rcases hs with rfl | rfl | rfl) | (rcases hs with rfl | rfl | rfl | rfl | rfl | rfl)) <;> decide)
      have hc := Lib.hid (of_any R code (N + 1 + (n - k)) _ _ HBw2.out.rd (by omega) hsA (by simp) (by simp) (fun b hb => by simp [Loc.fp, Loc.blk, Dat.fp] at hb; have := HS.out; have := HD.out.touch.size; omega))
      clear hsA hBw2
      go_wp2_with fail
      refine hc.out.mono ?_
      rintro e w2 ⟨⟨t, rfl, tm, tz⟩, hd⟩
      have H2 := Lib.hid (HBw2.out.trans hd)
      have TH2 := Lib.hid hd.touch
      clear hd hc
      have ht : t.size ≤ 1 := by
        simp only [List.mem_cons, List.mem_nil_iff, or_false] at tm
        rcases tm with rfl | rfl | rfl | rfl <;> decide
      have hsz : s.size ≤ 1000 := by omega
      clear tm tz
      go_wp2_with fail
      go_roundw
      case rel =>
        refine ⟨k - 1, _, by omega, by go_num, rfl, ?_, H2.out.mono (by omega)⟩
        rw [ByteArray.size_append]; omega
      case measure => simp [intOf]; omega
    · have hk2 : k = 0 := by omega
      subst hk2
      have hsz : s.size ≤ 12 := by omega
      go_wp2_with fail
      refine (pick_any R code (N + 1 + (n - 0)) 40 wr HD.out.rd (by omega) (by decide) (by decide)).mono ?_
      rintro e w3 ⟨⟨q, rfl, ql, qh⟩, hd⟩
      have H3 := Lib.hid (HD.out.trans hd)
      have TH3 := Lib.hid hd.touch
      clear hd
      by_cases hq : q = 0
      · subst hq
        go_wp2_with fail
        have hBw4 : Below w3.heap.size w3 (w3.alloc (Obj.cells #[.string ⟨#[101]⟩, .string ⟨#[32]⟩, .string ⟨#[97, 97, 97, 97]⟩] 9)) := (Below.refl _ _).alloc (Nat.le_refl _) _
        have HBw4 := Lib.hid (H3.out.later hBw4)
        have hsA := strs_At (xs := [⟨#[101]⟩, ⟨#[32]⟩, ⟨#[97, 97, 97, 97]⟩]) (heap_alloc_new w3 (Obj.cells #[.string ⟨#[101]⟩, .string ⟨#[32]⟩, .string ⟨#[97, 97, 97, 97]⟩] 9)) rfl rfl (by decide) (by intro s hs; simp only [List.mem_cons, List.mem_nil_iff, or_false] at hs; (first | (rcases hs with rfl | rfl | rfl | rfl) | (rcases hs with rfl | rfl | rfl) | (rcases hs with rfl | rfl | rfl | rfl | rfl | rfl)) <;> decide)
        have hc := Lib.hid (of_any R code (N + 1 + (n - 0) + 1) _ _ HBw4.out.rd (by omega) hsA (by simp) (by simp) (fun b hb => by simp [Loc.fp, Loc.blk, Dat.fp] at hb; have := HS.out; have := H3.out.touch.size; omega))
        clear hsA hBw4
        go_wp2_with fail
        refine hc.out.mono ?_
        rintro e w4 ⟨⟨t, rfl, tm, tz⟩, hd⟩
        have H4 := Lib.hid (HBw4.out.trans hd)
        have TH4 := Lib.hid hd.touch
        clear hd hc
        have ht : t.size ≤ 4 := by
          simp only [List.mem_cons, List.mem_nil_iff, or_false] at tm
          rcases tm with rfl | rfl | rfl <;> decide
        clear tm tz
        go_wp2_with fail
        go_ret
        exact ⟨⟨_, rfl, by rw [ByteArray.size_append]; omega⟩, H4.out.mono (by omega)⟩
      · have hq' : (q == 0) = false := by rw [beq_eq_false_iff_ne]; exact hq
        go_wp2_with fail
        go_ret
        exact ⟨⟨_, rfl, by omega⟩, H3.out.mono (by omega)⟩
end Go.Proofs.YtdbejmnfnbkndaaDoor
